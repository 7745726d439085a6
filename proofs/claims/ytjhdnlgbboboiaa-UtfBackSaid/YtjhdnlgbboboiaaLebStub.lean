/- leb's functions as the printer's callers want them: a plain answer, and that the call gives it. -/
import Derived.Test.YtjhdnlgbboboiaaLebAwake
namespace Go.Proofs.Ytjhdnlgbboboiaa.Leb
open Go.RowKit Go.Proofs.YtjhdnlgbboboiaaW.PrintWords Go.Proofs.YtjhdnlgbboboiaaW.PrintLast Go.Proofs.YtjhdnlgbboboiaaW.PrintMore Go.Proofs.Ytjhdnlgbboboiaa.Base
set_option linter.unusedVariables false
set_option linter.unusedSimpArgs false

def okBb (l : List Int) : Bool := l.all fun x => decide (0 ≤ x) && decide (x < 256)
theorem okBb_ok {l : List Int} (h : okBb l = true) : okB l := by
  intro x hx
  have := List.all_eq_true.1 h x hx
  simpa using this
theorem okBb_of {l : List Int} (h : okB l) : okBb l = true := by
  unfold okBb
  rw [List.all_eq_true]
  intro x hx
  have := h x hx
  simpa using this
def uintF (l : List Int) (a b : Int) : Option (Int × Int × Int) := if okBb l = true then (if l.length ≤ 140737488355328 then some (uintR (scanF LU l a b)) else none) else none
def sintF (l : List Int) (a b : Int) : Option (Int × Int × Int) := if okBb l = true then (if l.length ≤ 140737488355328 then some (sintR (scanF LS l a b)) else none) else none
def putUF (n : Int) : Option (List Int) := if 0 ≤ n then (if n < 18446744073709551616 then putL (fun n => n / 128) (fun n _ => n == 0) 100 n [] else none) else none
def putSF (n : Int) : Option (List Int) := if 0 ≤ n then (if n < 18446744073709551616 then putL shS dnS 100 n [] else none) else none
theorem uintF_calls (A0 : Option Addr) (c0 : Nat) (l0 : List Int) (a1 : Int) (a2 : Int) (r1 : Int) (r2 : Int) (r3 : Int) (w : World) (hr0 : Kd.C (Kd.int .u8) w A0 l0.length l0) (hc0 : l0.length ≤ c0) (h : uintF l0 a1 a2 = some (r1, r2, r3)) :
    Calls Try.prog 24 #[.slice A0 l0.length c0, .int .i64 a1, .int .i64 a2] w fun e w' => e = .returned (.tuple #[.int .u64 r1, .int .i64 r2, .int .i64 r3]) ∧ Below w.heap.size w w' := by
  unfold uintF at h
  split at h
  · rename_i hk
    split at h
    · rename_i hl
      refine (Uint_calls A0 c0 l0 a1 a2 w hl hc0 hr0 (okBb_ok hk)).mono ?_
      rintro e w' ⟨rfl, hb⟩
      rw [Option.some.inj h]
      exact ⟨rfl, hb⟩
    · cases h
  · cases h
theorem sintF_calls (A0 : Option Addr) (c0 : Nat) (l0 : List Int) (a1 : Int) (a2 : Int) (r1 : Int) (r2 : Int) (r3 : Int) (w : World) (hr0 : Kd.C (Kd.int .u8) w A0 l0.length l0) (hc0 : l0.length ≤ c0) (h : sintF l0 a1 a2 = some (r1, r2, r3)) :
    Calls Try.prog 25 #[.slice A0 l0.length c0, .int .i64 a1, .int .i64 a2] w fun e w' => e = .returned (.tuple #[.int .u64 r1, .int .i64 r2, .int .i64 r3]) ∧ Below w.heap.size w w' := by
  unfold sintF at h
  split at h
  · rename_i hk
    split at h
    · rename_i hl
      refine (Sint_calls A0 c0 l0 a1 a2 w hl hc0 hr0 (okBb_ok hk)).mono ?_
      rintro e w' ⟨rfl, hb⟩
      rw [Option.some.inj h]
      exact ⟨rfl, hb⟩
    · cases h
  · cases h
theorem putUF_calls (a0 : Int) (r : List Int) (w : World) (h : putUF a0 = some r) :
    Calls Try.prog 28 #[.int .u64 a0] w fun e w' => ∃ v0_ : Value, e = .returned (v0_) ∧ Kd.R (Kd.int .u8) 5 w' w.heap.size (fun _ => True) v0_ r ∧ Below w.heap.size w w' := by
  unfold putUF at h
  split at h
  · rename_i h0
    split at h
    · rename_i h1
      exact PutUint_calls a0 r w h0 h1 h
    · cases h
  · cases h
theorem putSF_calls (a0 : Int) (r : List Int) (w : World) (h : putSF a0 = some r) :
    Calls Try.prog 30 #[.int .u64 a0] w fun e w' => ∃ v0_ : Value, e = .returned (v0_) ∧ Kd.R (Kd.int .u8) 5 w' w.heap.size (fun _ => True) v0_ r ∧ Below w.heap.size w w' := by
  unfold putSF at h
  split at h
  · rename_i h0
    split at h
    · rename_i h1
      exact PutSint_calls a0 r w h0 h1 h
    · cases h
  · cases h
end Go.Proofs.Ytjhdnlgbboboiaa.Leb
