/- The walk of the law UtfPuts: it returns true. -/
import Derived.Test.YtjhdnlgbboboiaaUtfPut
namespace Go.Proofs.Ytjhdnlgbboboiaa.Utf
open Go.RowKit Go.Proofs.YtjhdnlgbboboiaaW.PrintWords Go.Proofs.YtjhdnlgbboboiaaW.PrintLast Go.Proofs.YtjhdnlgbboboiaaW.PrintMore Go.Proofs.Ytjhdnlgbboboiaa.Base Go.Proofs.Ytjhdnlgbboboiaa.Q16
set_option linter.unusedVariables false
set_option linter.unusedSimpArgs false

set_option maxRecDepth 100000 in
set_option maxHeartbeats 1000000 in
theorem puts_walk (c : Int) (w : World) (w0 : (Lit.int .i32 c).wf = true) : Calls Try.prog 5 #[.int .i32 c] w fun e w' => e = .returned (.bool true) ∧ Below w.heap.size w w' := by
  simp only [Lit.wf, Bool.and_eq_true, decide_eq_true_eq] at w0
  have u1 : IntKind.i32.min = -2147483648 := rfl
  have u2 : IntKind.i32.max = 2147483647 := rfl
  rw [u1, u2] at w0
  obtain ⟨w0, w0'⟩ := w0
  obtain ⟨g, hg⟩ := put_ev c
  have REF := Aside0.mk (fun W => trunnionref16_Put.calls g c _ W (hg g (Nat.le_refl _)))
  clear hg
  have PUT := Aside0.mk (fun W => Put_calls c W)
  obtain ⟨L, hL⟩ : ∃ L, L = encL c := ⟨_, rfl⟩
  have hg1 : badRune c → L = [] := fun h => by rw [hL, encL_bad h]
  have hg2 : ¬ badRune c → 1 ≤ L.length := fun h => by rw [hL]; exact (encL_len h).1
  unfold PutPost at PUT
  rw [← hL] at REF PUT
  obtain ⟨B, hB⟩ : ∃ B, B = decide (¬ badRune c) := ⟨_, rfl⟩
  rw [← hB] at PUT
  have k0 : (B == decide (0 < L.length)) = true := by
    rw [hB, beq_iff_eq]
    by_cases h : badRune c
    · rw [hg1 h, decide_eq_false (fun k => k h)]; rfl
    · have := hg2 h
      rw [decide_eq_true h, decide_eq_true (by omega)]
  clear hg1 hg2 hL hB
  go_enter Try.func5, Try.ntmps5
  go_wp2_with fail
  refine (awake_calls w).mono ?_
  rintro e w1 ⟨rfl, hb⟩
  have HB1 := Aside0.mk hb
  clear hb
  go_wp2_with fail
  refine (PUT.out w1).mono ?_
  rintro e w2 ⟨A, n, rfl, hb, hc⟩
  have HB2 := Aside0.mk (below_then HB1.out HB1.out.size hb)
  have HC2 := Aside0.mk hc
  clear hb hc HB1
  go_wp2_with fail
  refine (REF.out w2).mono ?_
  rintro e w3 ⟨v, rfl, ho, hb⟩
  obtain ⟨A2, c2, rfl⟩ := Kd.R_slice ho
  have HR3 := Aside0.mk (Kd.R_reads' ho).2.2
  have HC3 := Aside0.mk (Kd.C_below HC2.out hb)
  have HB3 := Aside0.mk (below_then HB2.out HB2.out.size hb)
  clear hb ho HC2 HB2
  have hcv1 := Kd.C_string (P := Try.prog) (A := A) (c := n) Try.underlying22 Try.underlying5 Try.underlying9 HC3.out
  have hcv2 := Kd.C_string (P := Try.prog) (A := A2) (c := c2) Try.underlying22 Try.underlying5 Try.underlying9 HR3.out
  go_wp2
  go_ret
  exact ⟨rfl, HB3.out⟩
end Go.Proofs.Ytjhdnlgbboboiaa.Utf
