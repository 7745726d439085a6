-- Written by a program of ours (stubprint.py) that calls the kit's printer.
import Derived.Test.YtjhdnlgbboboiaaQ16x0
import Derived.Test.YtjhdnlgbboboiaaUtfAwake
namespace Go.Proofs.Ytjhdnlgbboboiaa.Q16
open Go.RowKit Go.Proofs.YtjhdnlgbboboiaaW.PrintWords Go.Proofs.YtjhdnlgbboboiaaW.PrintLast Go.Proofs.YtjhdnlgbboboiaaW.PrintMore
attribute [local go_sem] max2_int min2_int max_two min_two max_three min_three max_four min_four   -- for this text's walks alone
set_option linter.unusedVariables false
set_option linter.unusedSimpArgs false

/-! ### trunnionlaw16_awake: function 15 -/
def trunnionlaw16_awake.f  : Option (Bool) := some true
theorem trunnionlaw16_awake.calls  (r : Bool) (w : World) (h : trunnionlaw16_awake.f  = some r) :
    Calls Try.prog 15 #[] w fun e w' => e = .returned (.bool r) ∧ Below w.heap.size w w' := by
  obtain rfl := Option.some.inj h
  exact Utf.awake_calls w

end Go.Proofs.Ytjhdnlgbboboiaa.Q16
