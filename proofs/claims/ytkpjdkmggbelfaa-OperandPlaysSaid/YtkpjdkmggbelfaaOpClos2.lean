/- The walk of Close of operand's stack. -/
import Derived.Test.YtkpjdkmggbelfaaOpClose
namespace Go.Proofs.Ytkpjdkmggbelfaa.Operand
open Go.RowKit Go.Proofs.YtkpjdkmggbelfaaW.PrintWords Go.Proofs.YtkpjdkmggbelfaaW.PrintLast Go.Proofs.YtkpjdkmggbelfaaW.PrintMore Go.Proofs.Ytkpjdkmggbelfaa.Mem
set_option linter.unusedVariables false
set_option linter.unusedSimpArgs false
def ClosePost (base : Nat) (w : World) (g : Nat) (tag : Nat → Nat) (r : List Int × Int × List Fr) (e : Ending) (w' : World) : Prop :=
  ∃ v, e = .returned (.tuple #[v, .int .i64 r.2.1]) ∧ Loose w' 5 1 v r.1.length (nums .u8 r.1) ∧ (∀ b, v.ownBlock = some b → w.heap.size ≤ b) ∧ After base w g tag r.2.2 w'
theorem closeM_nil : closeM [] = ([], 200, []) := rfl
theorem closeM_last (gs : List Fr) (f : Fr) : closeM (gs ++ [f]) = if (takeM (gs ++ [f]) f.fin.reverse).1 ≠ 0 then ([], (takeM (gs ++ [f]) f.fin.reverse).1, (takeM (gs ++ [f]) f.fin.reverse).2) else if (lyingM (takeM (gs ++ [f]) f.fin.reverse).2).length > 0 then ([], 202, (takeM (gs ++ [f]) f.fin.reverse).2) else (f.fin, 0, (takeM (gs ++ [f]) f.fin.reverse).2.dropLast) := by
  simp [closeM]
theorem AfterV.below {base : Nat} {W W1 W2 : World} {g : Nat} {tag : Nat → Nat} {fs : List Fr} {v : Value} (h : AfterV base W g tag fs v W1) (hb : Below W1.heap.size W1 W2) : AfterV base W g tag fs v W2 := by
  obtain ⟨tag1, cells1, h1, hk1, hb1, ht1, h31⟩ := h
  exact ⟨tag1, cells1, h1.below hb, hk1.below hb, hb1.trans (hb.mono h1.base), ht1, fun k hk => ⟨(hb.block k (h1.tagged k (by rw [(h31 k hk).2]; decide)).2).trans (h31 k hk).1, (h31 k hk).2⟩⟩
theorem After.below {base : Nat} {W W1 W2 : World} {g : Nat} {tag : Nat → Nat} {fs : List Fr} (h : After base W g tag fs W1) (hb : Below W1.heap.size W1 W2) : After base W g tag fs W2 := by
  obtain ⟨v, h⟩ := h
  exact ⟨v, h.below hb⟩
theorem row_last {base : Nat} {w : World} {g b cap : Nat} {tag : Nat → Nat} {gs : List Fr} {f : Fr} {cells : List Value} (h : Stk base w g tag (gs ++ [f]) (.slice (some ⟨b, 0, none⟩) (gs.length + 1) cap) cells) :
    Loose w 173 4 (.slice (some ⟨b, 0, none⟩) (gs.length + 1) cap) (gs.length + 1) cells := by
  have hrow := h.row
  have hlen : (gs ++ [f]).length = gs.length + 1 := by simp
  rw [hlen] at hrow
  exact hrow
theorem stk_last_at {base : Nat} {w : World} {g b cap : Nat} {tag : Nat → Nat} {gs : List Fr} {f : Fr} {cells : List Value} (h : Stk base w g tag (gs ++ [f]) (.slice (some ⟨b, 0, none⟩) (gs.length + 1) cap) cells) :
    ∃ vt A0 c0 A1 c1, Last w g b gs.length cap vt f ∧ FrAt w tag gs.length f cells A0 c0 A1 c1 vt := by
  obtain ⟨b', cap', vt, A0, c0, A1, c1, e, _, hL, hF⟩ := stk_last h
  injection e with e1 _ e3
  injection e1 with e1
  injection e1 with e1
  subst e1 e3
  exact ⟨vt, A0, c0, A1, c1, hL, hF⟩
set_option maxRecDepth 100000 in
set_option maxHeartbeats 4000000 in
theorem Close_calls (base : Nat) (w : World) (g : Nat) (tag : Nat → Nat) (fs : List Fr) (v : Value) (cells : List Value) (h : Stk base w g tag fs v cells) (hs : Small 1000000 fs) :
    Calls Try.prog 39 #[.pointer (some ⟨g, 0, none⟩)] w (ClosePost base w g tag (closeM fs)) := by
  rcases parted fs with rfl | ⟨gs, f, rfl⟩
  · rw [closeM_nil]
    obtain ⟨A, c, rfl, hbox⟩ := stk_empty h
    have H := Aside0.mk h
    have HX := Aside0.mk hbox
    clear h hbox hs
    go_enter Try.func39, Try.ntmps39
    go_wp2_with (first
      | (go_at_call 71; (with_reducible refine (is_calls _ _ _ _ HX.out).mono ?_); rintro e w' ⟨rfl, rfl⟩)
      | (go_at_call 73; (with_reducible refine (last_empty _ _ _ _ HX.out).mono ?_); rintro e w' ⟨rfl, rfl⟩)
      | fail)
    go_ret2
    exact ⟨_, rfl, Loose.nil _ _ _, (fun b hb => by cases hb), After.same H.out (Below.refl _ _) H.out.base⟩
  · have hm : gs.length ≤ 1000000 := by have := hs.1; simp at this; omega
    have hsl := small_of_last hs
    rw [closeM_last]
    obtain ⟨b, cap, vt, B0, d0, B1, d1, rfl, hvt, hL, hF⟩ := stk_last h
    have hrow := h.row
    have hlen : (gs ++ [f]).length = gs.length + 1 := by simp
    rw [hlen] at hrow
    have c1 : w.cell? ⟨b, gs.length * 4 + 1, none⟩ = some (.slice B1 f.fin.length d1) := loose_cell hrow _ _ hF.e1
    have H := Aside0.mk h
    have HM := Aside0.mk hm
    have HX := Aside0.mk hL.box
    have HC := Aside0.mk hL.cap1
    have TK := Aside0.mk (fun nn => Take_calls base (w.drewN nn) g tag (gs ++ [f]) _ cells (h.below (pw_below_drewN (Below.refl _ _) nn)) hs B1 d1 f.fin (Kd.F_mono (Kd.F_drewN hF.r1 nn) fun k hk => .inr hk) hsl.2.2)
    have HS2 := Aside0.mk (takeM_small f.fin.reverse hs)
    have TF := Aside0.mk (takeM_form f.fin.reverse gs f)
    obtain ⟨p, hp⟩ : ∃ p, p = takeM (gs ++ [f]) f.fin.reverse := ⟨_, rfl⟩
    rw [← hp] at TK HS2 TF ⊢
    obtain ⟨pe, pf⟩ := p
    have CO := Aside0.mk (fun nn w2 (h2 : AfterV base (w.drewN nn) g tag pf (.slice (some ⟨b, 0, none⟩) (gs.length + 1) cap) w2) => show AfterV base w g tag pf (.slice (some ⟨b, 0, none⟩) (gs.length + 1) cap) w2 from
      AfterV.then_ (Kept.of_below (pw_below_drewN (Below.refl _ _) nn) _) ((pw_below_drewN (Below.refl _ _) nn).mono h.base) (fun k hk => .inl hk) (fun k hk => ⟨rfl, hk⟩) h2)
    clear h hvt hL hF hm hs hrow hlen hp hsl
    by_cases hz : pe = 0
    · subst hz
      obtain ⟨ts, e0, hts⟩ := TF.out
      simp only at e0
      subst e0
      simp only [ne_eq, not_true_eq_false, if_false, lyingM_last, List.dropLast_concat]
      have hts2 : ts.length ≤ 1000000 := (small_of_last HS2.out).1
      rcases parted_ints ts with rfl | ⟨ts', x, rfl⟩
      · rw [if_neg (by simp)]
        go_enter Try.func39, Try.ntmps39
        go_wp2_with (first
          | (go_at_call 71; (with_reducible refine (is_calls _ _ _ _ HX.out).mono ?_); rintro e w' ⟨rfl, rfl⟩)
          | (go_at_call 73; (with_reducible refine (last_some _ _ _ _ _ HX.out HM.out).mono ?_); rintro e w' ⟨rfl, nn, rfl⟩)
          | (go_at_call 43
             (with_reducible refine (TK.out nn).mono ?_)
             rintro e w2 ⟨rfl, ha⟩
             obtain ⟨tag2, cells2, h2, hk2, hb2, ht2, h32⟩ := CO.out nn w2 ha
             obtain ⟨vt2, B2, d2, B3, d3, hL2, hF2⟩ := stk_last_at h2
             have z1 := loose_cell (row_last h2) _ _ hF2.e1
             have z2 := hL2.c2
             obtain ⟨A3, c3, rfl⟩ := row_one hL2.row
             have CL := Aside0.mk (clone_calls B3 d3 f.fin w2 (Kd.F_now hF2.r1) (small_of_last HS2.out).2.2)
             have H2 := Aside0.mk h2
             have K2 := Aside0.mk hk2
             have BB2 := Aside0.mk hb2
             have T2 := Aside0.mk ht2
             have T32 := Aside0.mk h32
             clear ha h2 hk2 hb2 ht2 h32 hL2 hF2)
          | (go_at_call 72
             (with_reducible refine CL.out.mono ?_)
             rintro e w3 ⟨v3, rfl, hl, hn, hb⟩
             have L3 := Aside0.mk hl
             have N3 := Aside0.mk hn
             have H3 := Aside0.mk (H2.out.below hb)
             have b0 := H3.out.box.c0
             have b1 := H3.out.box.fz 0
             have B3 := Aside0.mk hb
             clear hl hn hb)
          | fail)
        have hm2 := HM.out
        have hc2 := HC.out
        have w1 : IntKind.i64.wrap (gs.length : Int) = (gs.length : Int) := i64_is (by omega) (by omega)
        have w1' : wrap64 (gs.length : Int) = (gs.length : Int) := by unfold wrap64; omega
        have hcp : gs.length ≤ cap := by omega
        have hcp' : (gs.length : Int) ≤ (cap : Int) := by omega
        clear hm2 hc2
        go_region
        all_goals
          go_wp2
          go_ret2
          refine ⟨v3, rfl, L3.out.move fun k hk => set_other k ?_, fun k hk => Nat.le_trans K2.out.1 (N3.out k hk), ?_⟩
          · have e1 := (H2.out.tagged g (by rw [H2.out.gtag]; decide)).2
            have e2 := N3.out k hk
            show k ≠ g
            omega
          · exact After.then_ (K2.out.below B3.out) (BB2.out.trans (B3.out.mono H2.out.base)) T2.out (fun k hk => ⟨(B3.out.block k (H2.out.tagged k (by rw [(T32.out k hk).2]; decide)).2).trans (T32.out k hk).1, (T32.out k hk).2⟩) (After.below (stk_close H3.out) (below_drew (Below.refl _ _)))
      · rw [if_pos (by simp)]
        have dz : decide (0 < (ts' ++ [x]).length) = true := decide_eq_true (by simp)
        have dz2 : decide (0 < ((ts' ++ [x]).length : Int)) = true := decide_eq_true (by simp)
        obtain ⟨n, hn⟩ : ∃ n, n = (ts' ++ [x]).length := ⟨_, rfl⟩
        rw [← hn] at dz dz2
        have HN := Aside0.mk hn
        clear hn
        go_enter Try.func39, Try.ntmps39
        go_wp2_with (first
          | (go_at_call 71; (with_reducible refine (is_calls _ _ _ _ HX.out).mono ?_); rintro e w' ⟨rfl, rfl⟩)
          | (go_at_call 73; (with_reducible refine (last_some _ _ _ _ _ HX.out HM.out).mono ?_); rintro e w' ⟨rfl, nn, rfl⟩)
          | (go_at_call 43
             (with_reducible refine (TK.out nn).mono ?_)
             rintro e w2 ⟨rfl, ha⟩
             have HA := Aside0.mk (CO.out nn w2 ha)
             obtain ⟨tag2, cells2, h2, hk2, hb2, ht2, h32⟩ := CO.out nn w2 ha
             obtain ⟨vt2, B2, d2, B3, d3, hL2, hF2⟩ := stk_last_at h2
             have z2 := hL2.c2
             obtain ⟨A3, c3, rfl⟩ := row_one hL2.row
             rw [show (({ f with types := ts' ++ [x] } : Fr).types.length) = n from HN.out.symm] at z2
             clear ha h2 hk2 hb2 ht2 h32 hL2 hF2)
          | fail)
        go_ret2
        exact ⟨_, rfl, Loose.nil _ _ _, (fun b hb => by cases hb), HA.out.any⟩
    · rw [if_pos hz]
      have dz : (pe != 0) = true := bne_iff_ne.2 hz
      clear hz
      go_enter Try.func39, Try.ntmps39
      go_wp2_with (first
        | (go_at_call 71; (with_reducible refine (is_calls _ _ _ _ HX.out).mono ?_); rintro e w' ⟨rfl, rfl⟩)
        | (go_at_call 73; (with_reducible refine (last_some _ _ _ _ _ HX.out HM.out).mono ?_); rintro e w' ⟨rfl, nn, rfl⟩)
        | (go_at_call 43; (with_reducible refine (TK.out nn).mono ?_); rintro e w2 ⟨rfl, ha⟩; have HA := Aside0.mk (CO.out nn w2 ha); clear ha)
        | fail)
      go_ret2
      exact ⟨_, rfl, Loose.nil _ _ _, (fun b hb => by cases hb), HA.out.any⟩
end Go.Proofs.Ytkpjdkmggbelfaa.Operand
