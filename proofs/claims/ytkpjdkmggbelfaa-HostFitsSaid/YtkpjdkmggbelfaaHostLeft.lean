/- What is left of a queue, and its calls: copies in rows of their own. -/
import Derived.Test.YtkpjdkmggbelfaaHostOwn2
import Derived.Test.YtkpjdkmggbelfaaHostDone
namespace Go.Proofs.Ytkpjdkmggbelfaa.Host
open Go.RowKit Go.Proofs.YtkpjdkmggbelfaaW.PrintWords Go.Proofs.YtkpjdkmggbelfaaW.PrintLast Go.Proofs.YtkpjdkmggbelfaaW.PrintMore Go.Proofs.Ytkpjdkmggbelfaa.Mem Go.Proofs.Ytkpjdkmggbelfaa.PHostPlays
set_option linter.unusedVariables false
set_option linter.unusedSimpArgs false
/-- What has been collected. -/
structure LeftInv (w wr : World) (v : Value) (l : List S109) : Prop where
  out : wr.heap[w.heap.size + 1]? = some (.cells #[v, .slice none 0 0] 77 (0, 0))
  res : wr.heap[w.heap.size]? = some (.cells #[.slice none 0 0, .slice none 0 0] 77 (0, 0))
  row : Row k109o 109 wr (fun k => w.heap.size + 1 < k ∧ k < wr.heap.size ∧ v.ownBlock ≠ some k) v l
  own : ∀ b, v.ownBlock = some b → w.heap.size + 1 < b
  below : Below w.heap.size w wr
theorem left_step {w wr w2 w3 : World} {A A2 : Option Addr} {c c2 : Nat} {l : List S109} {X : S109} {rows : List (List Value)} {v1 : Value} (hF : LeftInv w wr (.slice A l.length c) l) (hrl : rows.length = l.length)
    (hf : ∀ (j : Nat) (x : S109) (cs : List Value), l[j]? = some x → rows[j]? = some cs → Kd.FK k109o wr (fun k => w.heap.size + 1 < k ∧ k < wr.heap.size ∧ (Value.slice A l.length c).ownBlock ≠ some k) x cs)
    (hb : Below wr.heap.size wr w2) (hr : Row kw 113 w2 (fun _ => False) (.slice A2 X.f1.length c2) X.f1) (hn : ∀ b, (Value.slice A2 X.f1.length c2).ownBlock = some b → wr.heap.size ≤ b)
    (h1 : Loose w3 109 2 v1 (l.length + 1) (rows.flatten ++ [.bool X.f0, .slice A2 X.f1.length c2])) (h2 : (w2.alloc (.cells #[.bool X.f0, .slice A2 X.f1.length c2] 109)).grownBy w3 (Value.slice A l.length c).ownBlock)
    (h3 : v1.ownBlock = (Value.slice A l.length c).ownBlock ∨ ∃ b, v1.ownBlock = some b ∧ (w2.alloc (.cells #[.bool X.f0, .slice A2 X.f1.length c2] 109)).heap.size ≤ b) :
    LeftInv w (w3.setCell ⟨w.heap.size + 1, 0, none⟩ v1) v1 (l ++ [X]) := by
  have hB := hb.alloc hb.size (.cells #[.bool X.f0, .slice A2 X.f1.length c2] 109)
  generalize hW2 : w2.alloc (.cells #[.bool X.f0, .slice A2 X.f1.length c2] 109) = W2 at hB h2 h3
  have hb2 : Below w2.heap.size w2 W2 := by rw [← hW2]; exact below_alloc (Below.refl _ _) _
  have hs1 := hb.size
  have hs2 := hB.size
  have hs3 := h2.size
  have hsz2 : W2.heap.size = w2.heap.size + 1 := by rw [← hW2]; exact World.size_alloc _ _
  have hlt := blk_lt hF.out
  have hsz : (w3.setCell ⟨w.heap.size + 1, 0, none⟩ v1).heap.size = w3.heap.size := by simp [World.setCell]
  have far : ∀ k, k ≠ w.heap.size + 1 → (w3.setCell ⟨w.heap.size + 1, 0, none⟩ v1).heap[k]? = w3.heap[k]? := fun k hk => Below.heap_setCell w3 ⟨w.heap.size + 1, 0, none⟩ v1 k hk
  have hown : ∀ b, v1.ownBlock = some b → w.heap.size + 1 < b := by
    intro b hb
    rcases h3 with e | ⟨b', e, hle⟩
    · exact hF.own b (e.symm.trans hb)
    · rw [e] at hb
      injection hb with hb
      omega
  have h12 : w3.heap[w.heap.size + 1]? = _ := ((h2.block _ (by omega) fun e => by have := hF.own _ e.symm; omega).trans (hB.block _ hlt)).trans hF.out
  have h11 : w3.heap[w.heap.size]? = _ := ((h2.block _ (by omega) fun e => by have := hF.own _ e.symm; omega).trans (hB.block _ (by omega))).trans hF.res
  have hR := Row.appended (d := k109o) (e := 109) (xs := l) (ys := [X]) (ok := fun k => w.heap.size + 1 < k ∧ k < W2.heap.size ∧ (Value.slice A l.length c).ownBlock ≠ some k) (W := W2) (w1 := w3) (v := .slice A l.length c) (rows := rows) (news := [[.bool X.f0, .slice A2 X.f1.length c2]]) hrl
    (fun j x c hx hc => Kd.FK_mono (Kd.FK_step (hf j x c hx hc) fun k _ hlt => hB.block k hlt) fun k hk => ⟨hk.1, by omega, hk.2.2⟩) rfl
    (fun j x cc hx hc => by
      cases j with
      | succ j => simp at hx
      | zero =>
        simp only [List.getElem?_cons_zero, Option.some.injEq] at hx hc
        subst hx hc
        refine k109o_mkF W2 _ _ (hr.move (fun k hk => hk.elim) fun k hk => hb2.block k (hr.lt k hk)) fun k hk => ?_
        have a := hn k hk
        have b := hr.lt k hk
        exact ⟨by omega, by omega, fun e => by have := hF.row.lt k e; omega⟩)
    h1 h2 (fun k hk e => hk.2.2 e.symm)
  refine ⟨?_, (far _ (by omega)).trans h11, ?_, hown, (((hF.below.trans (hB.mono (by omega))).grown h2 (by omega) fun k hk => by have := hF.own k hk; omega)).setCell (Nat.le_succ _) _⟩
  · have := blk_set h12 0 v1
    exact this
  · refine (Row.move hR (fun k hk _ => far k (by omega)) fun k hk => far k (by have := hown k hk; omega)).mono fun k hk => ⟨hk.1, by rw [hsz]; omega, fun e => ?_⟩
    rcases h3 with e2 | ⟨b', e2, hle⟩
    · exact hk.2.2 (e2.symm.trans e)
    · rw [e2] at e
      injection e with e
      omega
def LeftPost (w : World) (an : List S109) (gs : List Bool) (e : Ending) (w' : World) : Prop :=
  ∃ A c A2 c2, e = .returned (.agg #[.slice A an.length c, .slice A2 gs.length c2]) ∧ Row k109o 109 w' (fun k => w.heap.size ≤ k ∧ k < w'.heap.size) (.slice A an.length c) an ∧ Row Kd.bool 4 w' (fun _ => False) (.slice A2 gs.length c2) gs ∧
    (∀ b, (Value.slice A an.length c).ownBlock = some b → w.heap.size ≤ b) ∧ (∀ b, (Value.slice A2 gs.length c2).ownBlock = some b → w.heap.size ≤ b) ∧ Below w.heap.size w w'
set_option maxRecDepth 100000 in
set_option maxHeartbeats 8000000 in
theorem Left_calls (base : Nat) (w : World) (g : Nat) (tag : Nat → Nat) (an : List S109) (gs : List Bool) (cs : List S156) (va vg vc : Value) (h : Qs base w g tag an gs cs va vg vc) (hn : an.length ≤ 4398046510976) (hng : gs.length ≤ 140737488351232) (hx : ∀ x ∈ an, x.f1.length ≤ 17592186043904) :
    Calls Try.prog 31 #[.pointer (some ⟨g, 0, none⟩)] w (LeftPost w an gs) := by
  obtain ⟨Aa, ca, rfl⟩ := h.ra.one
  obtain ⟨Ag, cg, rfl⟩ := h.rg.one
  have hu := Try.underlying109
  have hu2 := Try.underlying75
  have hu77 := Try.underlying77
  have hb0 := (below_alloc (Below.refl w.heap.size w) (.cells #[.slice none 0 0, .slice none 0 0] 77)).alloc (by rw [World.size_alloc]; omega) (.cells #[.slice none 0 0, .slice none 0 0] 77)
  have IS := Aside0.mk (is_box _ g _ _ _ true (h.below hb0).box)
  have u0 : (((w.alloc (.cells #[.slice none 0 0, .slice none 0 0] 77)).alloc (.cells #[.slice none 0 0, .slice none 0 0] 77))).cell? ⟨g, 0, none⟩ = some (.slice Aa an.length ca) := (blk_cell (h.below hb0).box 0).trans rfl
  have HA := Aside0.mk (Kd.F_now h.ra.F.2.2)
  have HG := Aside0.mk (fun (W : World) (hW : Below w.heap.size w W) => clone_truths Ag cg gs W _ (Kd.F_step h.rg.F.2.2 fun k _ hlt => hW.block k hlt) hng)
  have HX := Aside0.mk hx
  have HN := Aside0.mk hn
  have H := Aside0.mk h
  have AF : Aside0 (LeftInv w ((w.alloc (.cells #[.slice none 0 0, .slice none 0 0] 77)).alloc (.cells #[.slice none 0 0, .slice none 0 0] 77)) (.slice none 0 0) []) := by
    refine ⟨⟨?_, ?_, Row.nil _ _ _ _, (fun b hb => by cases hb), hb0⟩⟩
    · have := heap_alloc_new (w.alloc (.cells #[.slice none 0 0, .slice none 0 0] 77)) (.cells #[.slice none 0 0, .slice none 0 0] 77)
      rw [World.size_alloc] at this
      exact this
    · exact (Below.heap_alloc _ _ _ (by rw [World.size_alloc]; omega)).trans (heap_alloc_new w _)
  clear h hn hng hx hb0
  go_enter Try.func31, Try.ntmps31
  go_wp2_with (first | (go_at_call 57; (with_reducible refine IS.out.mono ?_); rintro e w1 ⟨rfl, rfl⟩) | fail)
  go_loopg [15] an.length (fun d v15 w' => ∃ (i : Nat) (v : Value), v15 = .int .i64 (i : Int) ∧ Aside0 (i + d = an.length) ∧ Aside0 (LeftInv w w' v (an.take i)))
  case atStart => exact ⟨0, .slice none 0 0, rfl, ⟨by omega⟩, ⟨by rw [List.take_zero]; exact AF.out⟩⟩
  case round =>
    obtain ⟨i, v, rfl, HD, HF⟩ := hrel
    clear AF
    have hd := HD.out
    have hlen := HN.out
    cases gk with
    | zero =>
      have e1 : decide (i < an.length) = false := decide_eq_false (by omega)
      have hi : i = an.length := by omega
      subst hi
      have hF := HF.out
      rw [List.take_length] at hF
      have HF2 := Aside0.mk hF
      obtain ⟨A, c, rfl⟩ := hF.row.one
      have y1 : wr.cell? ⟨g, 1, none⟩ = some (.slice Ag gs.length cg) := (blk_cell (H.out.below hF.below).box 1).trans rfl
      have CL := Aside0.mk (HG.out wr hF.below)
      clear hd hlen hF HF
      go_wp2_with (first
        | (go_at_call 69
           (with_reducible refine CL.out.mono ?_)
           rintro e w1 ⟨v2, rfl, hr, hn2, hb⟩
           obtain ⟨A2, c2, rfl⟩ := hr.one
           have ho := (hb.block _ (blk_lt HF2.out.out)).trans HF2.out.out
           have hs := (hb.block _ (blk_lt HF2.out.res)).trans HF2.out.res
           have o0 := (blk_cell ho 0).trans rfl
           have o1 := (blk_cell ho 1).trans rfl
           have f1 := blk_frozen ho 1
           have s0 := (blk_cell hs 0).trans rfl
           have s1 := (blk_cell hs 1).trans rfl
           have g0 := blk_frozen hs 0
           have g1 := blk_frozen hs 1
           have R := Aside0.mk hr
           have NB := Aside0.mk hn2
           have HB := Aside0.mk hb
           have HS := Aside0.mk hs
           clear hr hn2 hb ho hs)
        | fail)
      have z1 := blk_set (blk_set (blk_far HS.out (p := ⟨w.heap.size + 1, 1, none⟩) (by show w.heap.size ≠ w.heap.size + 1; omega) (.slice A2 gs.length c2)) 0 (.slice A an.length c)) 1 (.slice A2 gs.length c2)
      have z2 : ((((w1.setCell ⟨w.heap.size + 1, 1, none⟩ (.slice A2 gs.length c2)).setCell ⟨w.heap.size, 0, none⟩ (.slice A an.length c)).setCell ⟨w.heap.size, 1, none⟩ (.slice A2 gs.length c2))).heap[w.heap.size]? = some (.cells #[.slice A an.length c, .slice A2 gs.length c2] 77 (0, 0)) := z1
      (try simp only [Exit.inBlock, Exit.then])
      refine bodyPost_ret (v := .agg #[.slice A an.length c, .slice A2 gs.length c2]) ?_ rfl ?_
      · exact results_cell_row rfl _ _ w.heap.size 77 #[.slice A an.length c, .slice A2 gs.length c2] (0, 0) _ rfl z2 hu77 rfl (by kernel_rfl)
      · have mv : ∀ k, w.heap.size + 1 < k → (((w1.setCell ⟨w.heap.size + 1, 1, none⟩ (.slice A2 gs.length c2)).setCell ⟨w.heap.size, 0, none⟩ (.slice A an.length c)).setCell ⟨w.heap.size, 1, none⟩ (.slice A2 gs.length c2)).heap[k]? = w1.heap[k]? := fun k hk =>
          (Below.heap_setCell _ ⟨w.heap.size, 1, none⟩ _ k (by show k ≠ w.heap.size; omega)).trans ((Below.heap_setCell _ ⟨w.heap.size, 0, none⟩ _ k (by show k ≠ w.heap.size; omega)).trans (Below.heap_setCell _ ⟨w.heap.size + 1, 1, none⟩ _ k (by show k ≠ w.heap.size + 1; omega)))
        have hsz : (((w1.setCell ⟨w.heap.size + 1, 1, none⟩ (.slice A2 gs.length c2)).setCell ⟨w.heap.size, 0, none⟩ (.slice A an.length c)).setCell ⟨w.heap.size, 1, none⟩ (.slice A2 gs.length c2)).heap.size = w1.heap.size := by simp [World.setCell]
        have hlt1 := blk_lt HF2.out.out
        have hwr := HB.out.size
        refine ⟨A, c, A2, c2, rfl, ?_, ?_, (fun b hb => by have := HF2.out.own b hb; omega), (fun b hb => by have := NB.out b hb; omega), (((HF2.out.below.trans (HB.out.mono (by omega))).setCell (Nat.le_succ _) _).setCell (Nat.le_refl _) _).setCell (Nat.le_refl _) _⟩
        · exact ((HF2.out.row.move (W1 := w1) (fun k hk hlt => HB.out.block k hlt) (fun k hk => HB.out.block k (HF2.out.row.lt k hk))).move (fun k hk hlt => mv k hk.1) (fun k hk => mv k (HF2.out.own k hk))).mono fun k hk => ⟨by omega, by rw [hsz]; omega⟩
        · obtain ⟨rows, hrl, hL, hf⟩ := R.out
          have hr2 : Row Kd.bool 4 w1 (fun _ => False) (.slice A2 gs.length c2) gs := ⟨rows, hrl, hL, fun j x c hx hc => fun W' _ => by
            have h2 := Kd.FK_now (hf j x c hx hc)
            exact h2⟩
          exact hr2.move (fun k hk => hk.elim) fun k hk => mv k (by have := NB.out k hk; omega)
    | succ d =>
      have hi : i < an.length := by omega
      have e1 : decide (i < an.length) = true := decide_eq_true hi
      have hiI : (i : Int) ≤ 140737488351232 := by omega
      have hw1 : wrap64 ((i : Int) + 1) = (i : Int) + 1 := by unfold wrap64; omega
      have hF := HF.out
      have ha1 : Kd.C k109 wr Aa an.length an := Kd.C_below HA.out hF.below
      obtain ⟨ad, A1, c1, eA, x0, x1, m1, q1⟩ := at_T109 ha1 (i : Int) (by omega) (by omega)
      subst eA
      have hm := HX.out (rd_T109 an (i : Int)) (by rw [show rd_T109 an (i : Int) = an[i] from getD_at hi]; exact List.getElem_mem hi)
      have htk : an.take (i + 1) = an.take i ++ [rd_T109 an (i : Int)] := by
        rw [List.take_succ_eq_append_getElem hi, show rd_T109 an (i : Int) = an[i] from getD_at hi]
      obtain ⟨X, hX⟩ : ∃ X, X = rd_T109 an (i : Int) := ⟨_, rfl⟩
      rw [← hX] at x0 x1 m1 q1 hm htk
      clear hX
      have HTK := Aside0.mk htk
      simp only [Int.toNat_natCast] at x0 x1
      obtain ⟨A, c, rfl⟩ := hF.row.one
      obtain ⟨rows, hrl, hL, hf⟩ := hF.row
      have hcl : (an.take i).length ≤ 4398046510976 := by rw [List.length_take]; omega
      have HCL := Aside0.mk hcl
      have HR := Aside0.mk hL
      have HRL := Aside0.mk hrl
      have HRF := Aside0.mk hf
      have HB0 := Aside0.mk (below_drew (below_alloc (Below.refl wr.heap.size wr) (.cells #[.bool X.f0, .slice A1 X.f1.length c1] 109)))
      have OC := Aside0.mk (ownAnswer_own (wr.alloc (.cells #[.bool X.f0, .slice A1 X.f1.length c1] 109)).drew X A1 c1 (Kd.C_below q1 HB0.out) hm)
      have hb1 := blk_lt hF.out
      have cw : ∀ W : World, Below wr.heap.size wr W → W.cell? ⟨w.heap.size + 1, 0, none⟩ = some (.slice A (an.take i).length c) ∧ W.frozen? ⟨w.heap.size + 1, 0, none⟩ = false := fun W hW => by
        have hbx := (hW.block _ hb1).trans hF.out
        exact ⟨(blk_cell hbx 0).trans rfl, blk_frozen hbx 0⟩
      have CW := Aside0.mk cw
      obtain ⟨a0, b0⟩ := cw _ HB0.out
      obtain ⟨a00, b00⟩ := cw _ (below_alloc (Below.refl wr.heap.size wr) (.cells #[.bool X.f0, .slice A1 X.f1.length c1] 109))
      clear hF ha1 q1 hm htk hrl hL hf hcl cw hb1 hd hlen m1
      go_wp2
      go_region_law (first
        | (refine loose_append_step rfl (.tmp 20) (.tmp 23) 75 109 (.agg #[.bool false, .slice none 0 0]) 2 32 rfl Try.underlying75 info109 rfl (by decide) (by decide) (.slice A (an.take i).length c) (an.take i).length rows.flatten (some ⟨w2.heap.size, 0, none⟩) 1 1 [.bool X.f0, .slice A2 X.f1.length c2] (by simp [Act.eval, Act.put]) (by simp [Act.eval, Act.put]) ?cO ?cR ?cL ?_
           case cO => exact (HR.out.move fun k hk => (HB.out.alloc HB.out.size _).block k (HR.out.lt k hk))
           case cR => exact lit_src2 w2 109 2 _ _ rfl rfl rfl
           case cL => have := HCL.out; omega
           intro v1 w3 h1 h2 h3
           obtain ⟨x2, y2, rfl⟩ : ∃ x2 y2, v1 = .slice x2 ((an.take i).length + 1) y2 := by
             rcases h1.2 with ⟨_, h0⟩ | ⟨gg, cap, cur, rfl, _⟩
             · omega
             · exact ⟨_, _, rfl⟩
           have hbx : w3.heap[w.heap.size + 1]? = _ := ((h2.block _ (by rw [World.size_alloc]; have := HB.out.size; have := blk_lt HF.out.out; omega) fun e => by have := HF.out.own _ e.symm; omega).trans ((HB.out.alloc HB.out.size _).block _ (blk_lt HF.out.out))).trans HF.out.out
           have a0 := (blk_cell hbx 0).trans rfl
           have b0 := blk_frozen hbx 0
           have G1 := Aside0.mk h1
           have G2 := Aside0.mk h2
           have G3 := Aside0.mk h3
           clear h1 h2 h3 hbx)
        | (go_simp
           go_wp2_with (first
             | (go_at_call 59
                (with_reducible refine OC.out.mono ?_)
                rintro e1 w2 ⟨A2, c2, rfl, hr2, hn2, hb⟩
                have F2 := Aside0.mk hr2
                have N2 := Aside0.mk hn2
                have HB := Aside0.mk (below_then HB0.out HB0.out.size hb)
                have HS2 := Aside0.mk hb.size
                obtain ⟨a0, b0⟩ := CW.out _ HB.out
                have ax : ∀ o, (w2.alloc o).cell? ⟨w.heap.size + 1, 0, none⟩ = some (.slice A (an.take i).length c) := fun o => (CW.out _ (HB.out.alloc HB.out.size o)).1
                clear hb hr2 hn2)
             | fail)))
      all_goals
        go_wp2
        go_roundg d
        case measure => omega
        case rel =>
          refine ⟨i + 1, .slice x2 (min i an.length + 1) y2, by push_cast; rfl, ⟨by have := HD.out; omega⟩, ⟨?_⟩⟩
          have fin := left_step HF.out HRL.out HRF.out HB.out F2.out (fun b hb => by have h5 := N2.out b hb; have h6 : ((wr.alloc (.cells #[.bool X.f0, .slice A1 X.f1.length c1] 109)).drew).heap.size = wr.heap.size + 1 := World.size_alloc wr _; omega) G1.out G2.out G3.out
          rw [← HTK.out] at fin
          have hnn : (an.take i).length + 1 = min i an.length + 1 := by rw [List.length_take]
          rw [hnn] at fin
          exact fin
end Go.Proofs.Ytkpjdkmggbelfaa.Host
