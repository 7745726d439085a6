import Derived.Test.YticonaahlplbjaaGreatDoorTnWide
import Derived.Laws.Externs
namespace Go.Proofs.YticonaahlplbjaaGreatDoor.Tn
open Go.RowKit
def sub64E : Array Value → Sem Value := fun args => do
  let (x, y, b) ← Extern.MathBitsCarry.three "Sub64" args
  pure (Extern.MathBitsCarry.pair ((x + Extern.MathBitsCarry.m64 - y - b) % Extern.MathBitsCarry.m64) (if x < y + b then 1 else 0))
theorem run_sub64 {P : Program} (x y b : Nat) (hb : b ≤ 1) (w : World) :
    (sub64E #[.int .u64 x, .int .u64 y, .int .u64 b]).run P w =
      .ok (.tuple #[.int .u64 (((x + 18446744073709551616 - y - b) % 18446744073709551616 : Nat) : Int), .int .u64 ((if x < y + b then 1 else 0 : Nat) : Int)]) w := by
  have : b = 0 ∨ b = 1 := by omega
  rcases this with rfl | rfl <;> rfl
theorem Add64_run (x y c : Int) (hx : u64 x) (hy : u64 y) (hc0 : 0 ≤ c) (hc : c ≤ 1) (w : World) : ∃ r d, (callFunc 153 #[.int .u64 x, .int .u64 y, .int .u64 c]).run Tryz.prog w = .ok (.value (.tuple #[.int .u64 r, .int .u64 d])) w ∧ u64 r ∧ 0 ≤ d ∧ d ≤ 1 := by
  rw [run_callFunc_extern Tryz.func153 (by kernel_rfl) (by kernel_rfl) (by kernel_rfl) (e := add64Entry) (by kernel_rfl), run_add64 x y c hx.1 hy.1 hc0 hc]
  exact ⟨_, _, rfl, by unfold u64; omega, by have := hx.1; have := hy.1; omega, by have := hx.2; have := hy.2; omega⟩
theorem Sub64_run (x y c : Int) (hx : u64 x) (hy : u64 y) (hc0 : 0 ≤ c) (hc : c ≤ 1) (w : World) : ∃ r d, (callFunc 158 #[.int .u64 x, .int .u64 y, .int .u64 c]).run Tryz.prog w = .ok (.value (.tuple #[.int .u64 r, .int .u64 d])) w ∧ u64 r ∧ 0 ≤ d ∧ d ≤ 1 := by
  obtain ⟨X, rfl⟩ := Int.eq_ofNat_of_zero_le hx.1
  obtain ⟨Y, rfl⟩ := Int.eq_ofNat_of_zero_le hy.1
  obtain ⟨C, rfl⟩ := Int.eq_ofNat_of_zero_le hc0
  rw [run_callFunc_extern Tryz.func158 (by kernel_rfl) (by kernel_rfl) (by kernel_rfl) (e := sub64E) (by kernel_rfl), run_sub64 X Y C (by omega)]
  exact ⟨_, _, rfl, by unfold u64; omega, by omega, by split <;> omega⟩
end Go.Proofs.YticonaahlplbjaaGreatDoor.Tn
