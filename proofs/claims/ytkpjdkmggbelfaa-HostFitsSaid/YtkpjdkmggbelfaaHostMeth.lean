/- The walks of a queue's methods: is, has, drop, Feed, Clear. -/
import Derived.Test.YtkpjdkmggbelfaaHostFeed2
import Derived.BigQuiet
namespace Go.Proofs.Ytkpjdkmggbelfaa.Host
open Go.RowKit Go.Proofs.YtkpjdkmggbelfaaW.PrintWords Go.Proofs.YtkpjdkmggbelfaaW.PrintLast Go.Proofs.YtkpjdkmggbelfaaW.PrintMore Go.Proofs.Ytkpjdkmggbelfaa.Mem Go.Proofs.Ytkpjdkmggbelfaa.PHostPlays
set_option linter.unusedVariables false
set_option linter.unusedSimpArgs false
theorem is_box (w : World) (g : Nat) (va vg vc : Value) (b : Bool) (h : w.heap[g]? = some (.cells #[va, vg, vc, .bool b] 103 (0, 0))) : Calls Try.prog 57 #[.pointer (some ⟨g, 0, none⟩)] w fun e w' => e = .returned (.bool b) ∧ w = w' := by
  have c3 : w.cell? ⟨g, 3, none⟩ = some (.bool b) := (blk_cell h 3).trans rfl
  clear h
  go_enter Try.func57, Try.ntmps57
  go_wp2
  go_ret
  exact ⟨rfl, rfl⟩
theorem is_none (w : World) : Calls Try.prog 57 #[.pointer none] w fun e w' => e = .returned (.bool false) ∧ w = w' := by
  go_enter Try.func57, Try.ntmps57
  go_wp2
  go_ret
  exact ⟨rfl, rfl⟩
theorem has_answers (w : World) (g : Nat) (A : Option Addr) (m c : Nat) (h : w.cell? ⟨g, 0, none⟩ = some (.slice A m c)) (n : Int) : Calls Try.prog 62 #[.pointer (some ⟨g, 0, none⟩), .int .i64 n] w fun e w' => e = .returned (.bool (decide (0 ≤ n ∧ n ≤ (m : Int)))) ∧ w = w' := by
  by_cases h0 : 0 ≤ n
  · have d0 : decide (0 ≤ n) = true := decide_eq_true h0
    have e : decide (0 ≤ n ∧ n ≤ (m : Int)) = decide (n ≤ (m : Int)) := by simp [h0]
    rw [e]
    clear h0 e
    go_enter Try.func62, Try.ntmps62
    go_wp2
    go_ret
    exact ⟨rfl, rfl⟩
  · have d0 : decide (0 ≤ n) = false := decide_eq_false h0
    have e : decide (0 ≤ n ∧ n ≤ (m : Int)) = false := by simp [h0]
    rw [e]
    clear h0 e
    go_enter Try.func62, Try.ntmps62
    go_wp2
    go_ret
    exact ⟨rfl, rfl⟩
theorem has_truths (w : World) (g : Nat) (A : Option Addr) (m c : Nat) (h : w.cell? ⟨g, 1, none⟩ = some (.slice A m c)) (n : Int) : Calls Try.prog 63 #[.pointer (some ⟨g, 1, none⟩), .int .i64 n] w fun e w' => e = .returned (.bool (decide (0 ≤ n ∧ n ≤ (m : Int)))) ∧ w = w' := by
  by_cases h0 : 0 ≤ n
  · have d0 : decide (0 ≤ n) = true := decide_eq_true h0
    have e : decide (0 ≤ n ∧ n ≤ (m : Int)) = decide (n ≤ (m : Int)) := by simp [h0]
    rw [e]
    clear h0 e
    go_enter Try.func63, Try.ntmps63
    go_wp2
    go_ret
    exact ⟨rfl, rfl⟩
  · have d0 : decide (0 ≤ n) = false := decide_eq_false h0
    have e : decide (0 ≤ n ∧ n ≤ (m : Int)) = false := by simp [h0]
    rw [e]
    clear h0 e
    go_enter Try.func63, Try.ntmps63
    go_wp2
    go_ret
    exact ⟨rfl, rfl⟩
end Go.Proofs.Ytkpjdkmggbelfaa.Host
