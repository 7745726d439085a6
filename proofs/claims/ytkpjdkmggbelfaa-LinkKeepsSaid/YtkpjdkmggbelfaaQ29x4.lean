-- Written by a program of ours (stubprint.py) that calls the kit's printer.
import Derived.Test.YtkpjdkmggbelfaaQ29x0
import Derived.Test.YtkpjdkmggbelfaaLinkRef
namespace Go.Proofs.Ytkpjdkmggbelfaa.Q29
open Go.RowKit Go.Proofs.YtkpjdkmggbelfaaW.PrintWords Go.Proofs.YtkpjdkmggbelfaaW.PrintLast Go.Proofs.YtkpjdkmggbelfaaW.PrintMore
attribute [local go_sem] max2_int min2_int max_two min_two max_three min_three max_four min_four   -- for this text's walks alone
set_option linter.unusedVariables false
set_option linter.unusedSimpArgs false

/-! ### link_All: function 15 -/
def link_All.f (l0 : List (S41)) (l1 : List (S41)) : Option (Int × Int) := some (Link.allP l0 l1)
theorem link_All.calls (A0 : Option Addr) (c0 : Nat) (l0 : List (S41)) (A1 : Option Addr) (c1 : Nat) (l1 : List (S41)) (r1 : Int) (r2 : Int) (w : World) (hr0 : Kd.C k41 w A0 l0.length l0) (hc0 : l0.length ≤ c0) (hr1 : Kd.C k41 w A1 l1.length l1) (hc1 : l1.length ≤ c1) (h : link_All.f l0 l1 = some (r1, r2)) :
    Calls Try.prog 15 #[.slice A0 l0.length c0, .slice A1 l1.length c1] w fun e w' => e = .returned (.tuple #[.int .i64 r1, .int .i64 r2]) ∧ Below w.heap.size w w' := by
  have h := Option.some.inj h
  obtain ⟨e1, e2⟩ := (show (Link.allP l0 l1).1 = r1 ∧ (Link.allP l0 l1).2 = r2 from by rw [h]; exact ⟨rfl, rfl⟩)
  rw [← e1, ← e2]
  exact Link.All_calls A0 c0 l0 A1 c1 l1 w hr0 hr1

end Go.Proofs.Ytkpjdkmggbelfaa.Q29
