/- The walk of the reference's Close. -/
import Derived.Test.YtkpjdkmggbelfaaOpRefT
namespace Go.Proofs.Ytkpjdkmggbelfaa.Operand
open Go.RowKit Go.Proofs.YtkpjdkmggbelfaaW.PrintWords Go.Proofs.YtkpjdkmggbelfaaW.PrintLast Go.Proofs.YtkpjdkmggbelfaaW.PrintMore Go.Proofs.Ytkpjdkmggbelfaa.Mem
set_option linter.unusedVariables false
set_option linter.unusedSimpArgs false
theorem rstk_last_at {base : Nat} {w : World} {g b cap : Nat} {tag : Nat → Nat} {gs : List Fr} {f : Fr} {cells : List Value} (h : RStk base w g tag (gs ++ [f]) (.slice (some ⟨b, 0, none⟩) (gs.length + 1) cap) cells) :
    ∃ A0 c0 A1 c1 A2 c2, RLast base w g b gs.length cap tag f A0 c0 A1 c1 A2 c2 := by
  obtain ⟨b', cap', A0, c0, A1, c1, A2, c2, e, hL⟩ := rstk_last h
  injection e with e1 _ e3
  injection e1 with e1
  injection e1 with e1
  subst e1 e3
  exact ⟨A0, c0, A1, c1, A2, c2, hL⟩
theorem RAfter.below {base : Nat} {W W1 W2 : World} {g : Nat} {tag : Nat → Nat} {fs : List Fr} (h : RAfter base W g tag fs W1) (hb : Below W1.heap.size W1 W2) : RAfter base W g tag fs W2 := by
  obtain ⟨v, h⟩ := h
  exact ⟨v, h.below hb⟩
theorem RAfter.then_ {base : Nat} {W W1 W2 : World} {g : Nat} {tag tag1 : Nat → Nat} {fs2 : List Fr} (hk : Kept W W1 (fun k => tag k ≠ 0)) (hb : Below base W W1) (ht : ∀ k, tag1 k ≠ 0 → tag k ≠ 0 ∨ W.heap.size ≤ k)
    (h3 : ∀ k, tag k = 3 → W1.heap[k]? = W.heap[k]? ∧ tag1 k = 3) (h2 : RAfter base W1 g tag1 fs2 W2) : RAfter base W g tag fs2 W2 := by
  obtain ⟨v, h2⟩ := h2
  exact ⟨v, RAfterV.then_ hk hb ht h3 h2⟩
section
variable (base : Nat) (w : World) (g : Nat) (tag : Nat → Nat) (fs gs : List Fr) (f : Fr) (v : Value) (cells : List Value)
set_option maxRecDepth 100000 in
set_option maxHeartbeats 4000000 in
theorem RClose_calls (h : RStk base w g tag fs v cells) (hs : Small 1000000 fs) : Calls Try.prog 76 #[.pointer (some ⟨g, 0, none⟩)] w (RClosePost base w g tag (closeM fs)) := by
  rcases parted fs with rfl | ⟨gs, f, rfl⟩
  · rw [closeM_nil]
    obtain ⟨A, c, rfl, hbox⟩ := rstk_empty h
    have H := Aside0.mk h
    have z0 := hbox.c0
    clear h hbox hs
    go_enter Try.func76, Try.ntmps76
    go_wp2
    go_ret2
    exact ⟨_, _, rfl, Rd.nil _ _ _, (RAfterV.same H.out (Below.refl _ _)).any⟩
  · have hm : gs.length ≤ 1000000 := by have := hs.1; simp at this; omega
    have hsl := small_of_last hs
    rw [closeM_last]
    obtain ⟨b, cap, A0, c0, A1, c1, A2, c2, rfl, hL⟩ := rstk_last h
    have z0 := hL.box.c0
    have x1 := hL.x1
    have R1 := Aside0.mk hL.r1
    have hcp : gs.length ≤ cap := by have := hL.cap1; omega
    have hcp' : (gs.length : Int) ≤ (cap : Int) := by omega
    have TK := Aside0.mk (RTake_calls base w g tag (gs ++ [f]) _ cells h hs A1 c1 f.fin hL.r1.r hsl.2.2)
    have HS2 := Aside0.mk (takeM_small f.fin.reverse hs)
    have TF := Aside0.mk (takeM_form f.fin.reverse gs f)
    obtain ⟨p, hp⟩ : ∃ p, p = takeM (gs ++ [f]) f.fin.reverse := ⟨_, rfl⟩
    rw [← hp] at TK HS2 TF ⊢
    obtain ⟨pe, pf⟩ := p
    have hmI : (gs.length : Int) ≤ 1000000 := by omega
    have hi1 : IntKind.i64.wrap ((gs.length : Int) + 1 - 1) = (gs.length : Int) := by rw [i64_is (by omega) (by omega)]; omega
    have hi2 : IntKind.i64.wrap (gs.length : Int) = (gs.length : Int) := i64_is (by omega) (by omega)
    have hi3 : wrap64 (gs.length : Int) = (gs.length : Int) := by unfold wrap64; omega
    clear h hL hm hs hp hsl
    by_cases hz : pe = 0
    · subst hz
      obtain ⟨ts, e0, hts⟩ := TF.out
      simp only at e0
      subst e0
      simp only [ne_eq, not_true_eq_false, if_false, lyingM_last, List.dropLast_concat]
      rcases parted_ints ts with rfl | ⟨ts', x, rfl⟩
      · rw [if_neg (by simp)]
        go_enter Try.func76, Try.ntmps76
        go_wp2_with (first
          | (go_at_call 79
             (with_reducible refine TK.out.mono ?_)
             rintro e w2 ⟨rfl, tag2, cells2, h2, hk2, hb2, ht2, h32⟩
             obtain ⟨B0, d0, B1, d1, B2, d2, hL2⟩ := rstk_last_at h2
             have y0 := hL2.box.c0
             have y2 := hL2.x2
             have yf := hL2.box.fz 0
             have H2 := Aside0.mk h2
             have K2 := Aside0.mk hk2
             have BB2 := Aside0.mk hb2
             have T2 := Aside0.mk ht2
             have T32 := Aside0.mk h32
             clear h2 hk2 hb2 ht2 h32 hL2)
          | fail)
        go_ret2
        exact ⟨A1, c1, rfl, R1.out, RAfter.then_ K2.out BB2.out T2.out T32.out (rstk_close H2.out)⟩
      · rw [if_pos (by simp)]
        have dz : decide (0 < (ts' ++ [x]).length) = true := decide_eq_true (by simp)
        have dz2 : decide (0 < ((ts' ++ [x]).length : Int)) = true := decide_eq_true (by simp)
        obtain ⟨n, hn⟩ : ∃ n, n = (ts' ++ [x]).length := ⟨_, rfl⟩
        rw [← hn] at dz dz2
        have HN := Aside0.mk hn
        clear hn
        go_enter Try.func76, Try.ntmps76
        go_wp2_with (first
          | (go_at_call 79
             (with_reducible refine TK.out.mono ?_)
             rintro e w2 ⟨rfl, ha⟩
             have HA := Aside0.mk ha
             obtain ⟨tag2, cells2, h2, hk2, hb2, ht2, h32⟩ := ha
             obtain ⟨B0, d0, B1, d1, B2, d2, hL2⟩ := rstk_last_at h2
             have y0 := hL2.box.c0
             have y2 := hL2.x2
             rw [show (({ f with types := ts' ++ [x] } : Fr).types.length) = n from HN.out.symm] at y2
             clear h2 hk2 hb2 ht2 h32 hL2)
          | fail)
        go_ret2
        exact ⟨_, _, rfl, Rd.nil _ _ _, HA.out.any⟩
    · rw [if_pos hz]
      have dz : (pe != 0) = true := bne_iff_ne.2 hz
      clear hz
      go_enter Try.func76, Try.ntmps76
      go_wp2_with (first
        | (go_at_call 79; (with_reducible refine TK.out.mono ?_); rintro e w2 ⟨rfl, ha⟩; have HA := Aside0.mk ha; clear ha)
        | fail)
      go_ret2
      exact ⟨_, _, rfl, Rd.nil _ _ _, HA.out.any⟩
end
end Go.Proofs.Ytkpjdkmggbelfaa.Operand
