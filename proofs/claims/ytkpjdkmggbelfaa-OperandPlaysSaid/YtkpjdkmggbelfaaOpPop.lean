/- The walks of Pop and Take of operand's stack. -/
import Derived.Test.YtkpjdkmggbelfaaOpPush
namespace Go.Proofs.Ytkpjdkmggbelfaa.Operand
open Go.RowKit Go.Proofs.YtkpjdkmggbelfaaW.PrintWords Go.Proofs.YtkpjdkmggbelfaaW.PrintLast Go.Proofs.YtkpjdkmggbelfaaW.PrintMore Go.Proofs.Ytkpjdkmggbelfaa.Mem
set_option linter.unusedVariables false
set_option linter.unusedSimpArgs false
def PopAll (base : Nat) (w : World) (g : Nat) (tag : Nat → Nat) (v : Value) (r : Int × Int × List Fr) (e : Ending) (w' : World) : Prop := e = .returned (.tuple #[.int .u8 r.1, .int .i64 r.2.1]) ∧ AfterV base w g tag r.2.2 v w'
theorem Stk.base {base : Nat} {w : World} {g : Nat} {tag : Nat → Nat} {fs : List Fr} {v : Value} {cells : List Value} (h : Stk base w g tag fs v cells) : base ≤ w.heap.size := by
  have := h.tagged g (by rw [h.gtag]; decide)
  omega
set_option maxRecDepth 100000 in
set_option maxHeartbeats 4000000 in
theorem Pop_calls (base : Nat) (w : World) (g : Nat) (tag : Nat → Nat) (fs : List Fr) (v : Value) (cells : List Value) (h : Stk base w g tag fs v cells) (hs : Small 1000000 fs) (want : Int) :
    Calls Try.prog 41 #[.pointer (some ⟨g, 0, none⟩), .int .u8 want] w (PopAll base w g tag v (popM fs want)) := by
  rcases parted fs with rfl | ⟨gs, f, rfl⟩
  · rw [popM_nil]
    obtain ⟨A, c, rfl, hbox⟩ := stk_empty h
    have H := Aside0.mk h
    have HX := Aside0.mk hbox
    clear h hbox hs
    go_enter Try.func41, Try.ntmps41
    go_wp2_with (first
      | (go_at_call 71; (with_reducible refine (is_calls _ _ _ _ HX.out).mono ?_); rintro e w' ⟨rfl, rfl⟩)
      | (go_at_call 73; (with_reducible refine (last_empty _ _ _ _ HX.out).mono ?_); rintro e w' ⟨rfl, rfl⟩)
      | fail)
    go_ret2
    exact ⟨rfl, AfterV.same H.out (Below.refl _ _) H.out.base⟩
  · have hm : gs.length ≤ 1000000 := by have := hs.1; simp at this; omega
    have hn := (small_of_last hs).1
    obtain ⟨b, cap, vt, B0, d0, B1, d1, rfl, hvt, hL, hF⟩ := stk_last h
    have H := Aside0.mk h
    have HV := Aside0.mk hvt
    have HL := Aside0.mk hL
    have HM := Aside0.mk hm
    have HX := Aside0.mk hL.box
    rcases parted_ints f.types with ht | ⟨ts, x, ht⟩
    · rw [popM_empty _ _ _ ht]
      have hrow := hL.row
      rw [ht] at hrow
      obtain ⟨A, cc, rfl⟩ := row_one hrow
      have fp := fun nn => fpop_empty (w.drewN nn) b (gs.length * 4) A cc f.dead want hL.c2 hL.c3
      obtain ⟨q, hq⟩ : ∃ q : Int, q = (if f.dead = true then 0 else 200) := ⟨_, rfl⟩
      rw [← hq] at fp ⊢
      have FP := Aside0.mk fp
      clear hq fp
      clear h hvt hL hF hm hn hs ht hrow
      go_enter Try.func41, Try.ntmps41
      go_wp2_with (first
        | (go_at_call 71; (with_reducible refine (is_calls _ _ _ _ HX.out).mono ?_); rintro e w' ⟨rfl, rfl⟩)
        | (go_at_call 73; (with_reducible refine (last_some _ _ _ _ _ HX.out HM.out).mono ?_); rintro e w' ⟨rfl, nn, rfl⟩)
        | (go_at_call 74; (with_reducible refine (FP.out nn).mono ?_); rintro e w' ⟨rfl, rfl⟩)
        | fail)
      go_ret2
      exact ⟨rfl, AfterV.same H.out (pw_below_drewN (Below.refl _ _) _) H.out.base⟩
    · have hrow := hL.row
      rw [ht] at hrow
      have htl : ts.length ≤ 1000000 := by rw [ht, List.length_append] at hn; omega
      have hlen : (ts ++ [x]).length = ts.length + 1 := by simp
      rw [hlen] at hrow
      rcases hrow.2 with ⟨_, h0⟩ | ⟨t, cc, cur, rfl, hg, hk1, hk2, hk3, hk4⟩
      · omega
      have hx : w.cell? ⟨t, ts.length, none⟩ = some (.int .u8 x) := loose_cell hrow ts.length _ (by simp [nums])
      have hcm : cc ≤ 9223372036854775807 := hk2
      by_cases hc : x ≠ 0 ∧ want ≠ 0 ∧ x ≠ want
      · rw [popM_miss _ _ _ _ _ ht hc]
        have FP := Aside0.mk (fun nn => fpop_miss (w.drewN nn) b (gs.length * 4) t ts.length cc x want hL.c2 hx htl hc.1 hc.2.1 hc.2.2)
        clear h hvt hL hF hm hn hs ht hrow hc hx hk1 hk2 hk3 hk4 hg htl hlen hcm
        go_enter Try.func41, Try.ntmps41
        go_wp2_with (first
          | (go_at_call 71; (with_reducible refine (is_calls _ _ _ _ HX.out).mono ?_); rintro e w' ⟨rfl, rfl⟩)
          | (go_at_call 73; (with_reducible refine (last_some _ _ _ _ _ HX.out HM.out).mono ?_); rintro e w' ⟨rfl, nn, rfl⟩)
          | (go_at_call 74; (with_reducible refine (FP.out nn).mono ?_); rintro e w' ⟨rfl, rfl⟩)
          | fail)
        go_ret2
        exact ⟨rfl, AfterV.same H.out (pw_below_drewN (Below.refl _ _) _) H.out.base⟩
      · rw [popM_hit _ _ _ _ _ ht hc]
        have hor : x = 0 ∨ want = 0 ∨ x = want := by omega
        have FP := Aside0.mk (fun nn => fpop_hit (w.drewN nn) b (gs.length * 4) t ts.length cc x want hL.c2 (hL.fz _) hx htl hk1 hcm hor)
        have hcut : Loose w 5 1 (.slice (some ⟨t, 0, none⟩) ts.length ts.length) ts.length (nums .u8 ts) := by
          have := hrow.cut (m := ts.length) (c' := ts.length) (by omega) (Nat.le_refl _) (by omega)
          simpa [nums] using this
        have HC := Aside0.mk hcut
        clear h hvt hL hF hm hn hs ht hrow hc hx hk1 hk2 hk3 hk4 hg htl hlen hcm hor hcut
        go_enter Try.func41, Try.ntmps41
        go_wp2_with (first
          | (go_at_call 71; (with_reducible refine (is_calls _ _ _ _ HX.out).mono ?_); rintro e w' ⟨rfl, rfl⟩)
          | (go_at_call 73; (with_reducible refine (last_some _ _ _ _ _ HX.out HM.out).mono ?_); rintro e w' ⟨rfl, nn, rfl⟩)
          | (go_at_call 74; (with_reducible refine (FP.out nn).mono ?_); rintro e w' ⟨rfl, rfl⟩)
          | fail)
        go_ret2
        exact ⟨rfl, stk_types H.out HV.out (grown_refl w nn _) HC.out (fun t' ht' => .inl ht')⟩
/-- Reading in what no stack turns: what came in, and what its frames only read. -/
def Args (base : Nat) (w : World) (tag : Nat → Nat) (A : Option Addr) (l : List Int) : Prop := Kd.F ku w (fun k => k < base ∨ tag k = 3) A l.length l
theorem Args.after {base : Nat} {w w1 : World} {g : Nat} {tag tag1 : Nat → Nat} {A : Option Addr} {l : List Int} (h : Args base w tag A l) (hb : Below base w w1) (h3 : ∀ k, tag k = 3 → w1.heap[k]? = w.heap[k]? ∧ tag1 k = 3) : Args base w1 tag1 A l :=
  Kd.F_mono (Kd.F_step h fun k hk hlt => hk.elim (fun e => hb.block k e) (fun e => (h3 k e).1)) fun k hk => hk.imp id fun e => (h3 k e).2
theorem takeM_cons (fs : List Fr) (x : Int) (r : List Int) : takeM fs (x :: r) = if (popM fs x).2.1 = 0 then takeM (popM fs x).2.2 r else ((popM fs x).2.1, (popM fs x).2.2) := rfl
theorem take_rev (l : List Int) (i : Nat) (h : i < l.length) : (l.take (i + 1)).reverse = rd l (i : Int) :: (l.take i).reverse := by
  rw [List.take_succ_eq_append_getElem h, List.reverse_append]
  simp [rd, h]
theorem u8_at {w : World} {A : Option Addr} {l : List Int} (h : ku.C w A l.length l) (i : Nat) (hi : i < l.length) : ∃ ad, A = some ad ∧ w.cell? (ad.add i) = some (.int .u8 (rd l (i : Int))) := by
  obtain ⟨ad, e, hc⟩ := ReadsOf.at_ (Kd.reads_of_C (enc := Value.int .u8) (d := (0 : Int)) (h1 := fun _ => rfl) h) (i : Int) (by omega) (by omega)
  exact ⟨ad, e, by simpa [rdOf, rd] using hc⟩
def TakeAll (base : Nat) (w : World) (g : Nat) (tag : Nat → Nat) (v : Value) (r : Int × List Fr) (e : Ending) (w' : World) : Prop := e = .returned (.int .i64 r.1) ∧ AfterV base w g tag r.2 v w'
set_option maxRecDepth 100000 in
set_option maxHeartbeats 4000000 in
theorem Take_calls (base : Nat) (w : World) (g : Nat) (tag : Nat → Nat) (fs : List Fr) (v : Value) (cells : List Value) (h : Stk base w g tag fs v cells) (hs : Small 1000000 fs)
    (A : Option Addr) (c : Nat) (l : List Int) (ha : Args base w tag A l) (hl : l.length ≤ 1000000) :
    Calls Try.prog 43 #[.pointer (some ⟨g, 0, none⟩), .slice A l.length c] w (TakeAll base w g tag v (takeM fs l.reverse)) := by
  have H := Aside0.mk h
  have HX := Aside0.mk h.box
  have HL := Aside0.mk hl
  have hlI : (l.length : Int) ≤ 1000000 := by omega
  have HA0 := Aside0.mk ha
  have HS0 := Aside0.mk hs
  have AF := Aside0.mk (AfterV.same h (Below.refl _ _) h.base)
  clear h hl ha hs
  go_enter Try.func43, Try.ntmps43
  go_wp2_with (go_at_call 71; (with_reducible refine (is_calls _ _ _ _ HX.out).mono ?_); rintro e w' ⟨rfl, rfl⟩)
  go_loopg [5] l.length (fun d v5 w' => ∃ (fs1 : List Fr), v5 = .int .i64 ((d : Int) - 1) ∧ Aside0 (d ≤ l.length) ∧ Aside0 (AfterV base w g tag fs1 v w') ∧ Aside0 (Small 1000000 fs1) ∧ Aside0 (takeM fs1 (l.take d).reverse = takeM fs l.reverse))
  case atStart => exact ⟨fs, rfl, ⟨Nat.le_refl _⟩, AF, HS0, ⟨by rw [List.take_length]⟩⟩
  case round =>
    obtain ⟨fs1, rfl, HD, HF, HS, HT⟩ := hrel
    clear AF HS0
    obtain ⟨tag1, cells1, h1, hk1, hb1, ht1, h31⟩ := HF.out
    have H1 := Aside0.mk h1
    cases gk with
    | zero =>
      have hT := HT.out
      simp only [List.take_zero, List.reverse_nil, takeM] at hT
      have HT1 := Aside0.mk hT
      clear hT HT h1 hk1 hb1 ht1 h31
      go_wp2
      go_ret
      exact ⟨by rw [← HT1.out]; rfl, by rw [← HT1.out]; exact HF.out⟩
    | succ d =>
      have hd := HD.out
      have hi : d < l.length := by omega
      have hm : (l.length : Int) ≤ 1000000 := by have := HL.out; omega
      have hi1 : (d : Int) < (l.length : Int) := by omega
      have ha1 := HA0.out.after (g := g) hb1 h31
      obtain ⟨ad, e1, hx⟩ := u8_at (Kd.F_now ha1) d hi
      subst e1
      have hT := HT.out
      rw [take_rev l d hi, takeM_cons] at hT
      obtain ⟨x, hxx⟩ : ∃ x, x = rd l (d : Int) := ⟨_, rfl⟩
      rw [← hxx] at hT hx
      clear hxx HT
      have PC := Aside0.mk (Pop_calls base wr g tag1 fs1 v cells1 h1 HS.out x)
      have HS1 := Aside0.mk (popM_small x HS.out)
      obtain ⟨p, hp⟩ : ∃ p, p = popM fs1 x := ⟨_, rfl⟩
      rw [← hp] at PC hT HS1
      obtain ⟨px, pe, pf⟩ := p
      by_cases hz : pe = 0
      · subst hz
        rw [if_pos rfl] at hT
        have HT1 := Aside0.mk hT
        have HC := Aside0.mk (show ∀ w2, AfterV base wr g tag1 pf v w2 → AfterV base w g tag pf v w2 from fun w2 h2 => AfterV.then_ hk1 hb1 ht1 h31 h2)
        clear hT h1 hk1 hb1 ht1 h31 ha1 hp hd
        go_wp2_with (first
          | (go_at_call 41
             (with_reducible refine PC.out.mono ?_)
             rintro e w2 ⟨rfl, ha⟩
             have HF2 := Aside0.mk (HC.out _ ha)
             clear ha)
          | fail)
        go_roundg d
        case measure => omega
        case rel => exact ⟨pf, by simp, ⟨by omega⟩, HF2, HS1, HT1⟩
      · rw [if_neg hz] at hT
        have HT1 := Aside0.mk hT
        have dz : (pe != 0) = true := bne_iff_ne.2 hz
        have HC := Aside0.mk (show ∀ w2, AfterV base wr g tag1 pf v w2 → AfterV base w g tag pf v w2 from fun w2 h2 => AfterV.then_ hk1 hb1 ht1 h31 h2)
        clear hT h1 hk1 hb1 ht1 h31 ha1 hp hd hz
        go_wp2_with (first
          | (go_at_call 41
             (with_reducible refine PC.out.mono ?_)
             rintro e w2 ⟨rfl, ha⟩
             have HF2 := Aside0.mk (HC.out _ ha)
             clear ha)
          | fail)
        go_ret
        exact ⟨by rw [← HT1.out]; rfl, by rw [← HT1.out]; exact HF2.out⟩
end Go.Proofs.Ytkpjdkmggbelfaa.Operand
