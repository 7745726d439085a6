/- The walk of trunnionlaw15.awake: it returns true. -/
import Derived.Test.YtjhdnlgbboboiaaLebRead
import Derived.Test.YtjhdnlgbboboiaaLebPut
namespace Go.Proofs.Ytjhdnlgbboboiaa.Leb
open Go.RowKit Go.Proofs.YtjhdnlgbboboiaaW.PrintWords Go.Proofs.YtjhdnlgbboboiaaW.PrintLast Go.Proofs.YtjhdnlgbboboiaaW.PrintMore Go.Proofs.Ytjhdnlgbboboiaa.Base
set_option linter.unusedVariables false
set_option linter.unusedSimpArgs false

theorem aw1 : uintR (scanF LU [229, 142, 38] 0 32) = (624485, 3, 0) := by decide +kernel
theorem aw2 : sintR (scanF LS [128, 127] 0 32) = (18446744073709551488, 2, 0) := by decide +kernel
theorem aw3 : putL (fun n => n / 128) (fun n _ => n == 0) 100 300 [] = some [172, 2] := by decide +kernel
set_option maxRecDepth 100000 in
set_option maxHeartbeats 1000000 in
theorem awake_calls (w : World) : Calls Try.prog 23 #[] w fun e w' => e = .returned (.bool true) ∧ Below w.heap.size w w' := by
  have h1 : ∀ W : World, Calls Try.prog 24 #[.slice (some ⟨W.heap.size, 0, none⟩) 3 3, .int .i64 0, .int .i64 32] (W.alloc (.cells #[.int .u8 229, .int .u8 142, .int .u8 38] 5)) fun e w' => e = .returned (.tuple #[.int .u64 624485, .int .i64 3, .int .i64 0]) ∧ Below W.heap.size W w' := by
    intro W
    refine (Uint_calls (some ⟨W.heap.size, 0, none⟩) 3 [229, 142, 38] 0 32 _ (by decide) (by decide) (C_lit W [229, 142, 38] (by decide)) (by unfold okB; decide)).mono ?_
    rintro e w' ⟨rfl, hb⟩
    rw [aw1]
    exact ⟨rfl, below_then ((Below.refl W.heap.size W).alloc (Nat.le_refl _) _) (by simp) hb⟩
  have h2 : ∀ W : World, Calls Try.prog 25 #[.slice (some ⟨W.heap.size, 0, none⟩) 2 2, .int .i64 0, .int .i64 32] (W.alloc (.cells #[.int .u8 128, .int .u8 127] 5)) fun e w' => e = .returned (.tuple #[.int .u64 18446744073709551488, .int .i64 2, .int .i64 0]) ∧ Below W.heap.size W w' := by
    intro W
    refine (Sint_calls (some ⟨W.heap.size, 0, none⟩) 2 [128, 127] 0 32 _ (by decide) (by decide) (C_lit W [128, 127] (by decide)) (by unfold okB; decide)).mono ?_
    rintro e w' ⟨rfl, hb⟩
    rw [aw2]
    exact ⟨rfl, below_then ((Below.refl W.heap.size W).alloc (Nat.le_refl _) _) (by simp) hb⟩
  have h3 : ∀ W : World, Calls Try.prog 28 #[.int .u64 300] W fun e w' => ∃ A c, e = .returned (.slice A 2 c) ∧ Below W.heap.size W w' := by
    intro W
    refine (PutUint_calls 300 _ W (by decide) (by decide) aw3).mono ?_
    rintro e w' ⟨v, rfl, hR, hb⟩
    obtain ⟨A, c, rfl⟩ := Kd.R_slice hR
    exact ⟨A, c, rfl, hb⟩
  have H1 := Aside0.mk h1
  have H2 := Aside0.mk h2
  have H3 := Aside0.mk h3
  clear h1 h2 h3
  go_enter Try.func23, Try.ntmps23
  go_wp2_with fail
  refine (H1.out w).mono ?_
  rintro e w1 ⟨rfl, hb⟩
  have HB1 := Aside0.mk hb
  clear hb
  go_wp2_with fail
  refine (H2.out w1).mono ?_
  rintro e w2 ⟨rfl, hb⟩
  have HB2 := Aside0.mk (below_then HB1.out HB1.out.size hb)
  clear hb
  go_wp2_with fail
  refine (H3.out w2).mono ?_
  rintro e w3 ⟨A, c, rfl, hb⟩
  have HB3 := Aside0.mk (below_then HB2.out HB2.out.size hb)
  clear hb
  go_wp2
  go_ret
  exact ⟨rfl, HB3.out⟩
end Go.Proofs.Ytjhdnlgbboboiaa.Leb
