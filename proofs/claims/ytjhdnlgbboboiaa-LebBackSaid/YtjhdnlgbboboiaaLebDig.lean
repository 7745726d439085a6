/- The plain law of leb's writers, unsigned: the bytes that are put are the digits, and digits are read as their number. No program in sight. -/
import Derived.Test.YtjhdnlgbboboiaaLebMath
namespace Go.Proofs.Ytjhdnlgbboboiaa.Leb
open Go.RowKit Go.Proofs.YtjhdnlgbboboiaaW.PrintWords
set_option linter.unusedVariables false

/-- The number's digits, so many. -/
def dig : Nat → Int → List Int
  | 0, _ => []
  | 1, n => [n % 128]
  | c + 2, n => (n % 128 + 128) :: dig (c + 1) (n / 128)
theorem dig_len : ∀ c n, (dig c n).length = c
  | 0, _ => rfl
  | 1, _ => rfl
  | c + 2, n => by simp [dig, dig_len (c + 1)]
theorem dig_ok : ∀ c n, okB (dig c n)
  | 0, _ => by intro x hx; simp [dig] at hx
  | 1, n => by intro x hx; simp [dig] at hx; omega
  | c + 2, n => by
    intro x hx
    simp only [dig, List.mem_cons] at hx
    rcases hx with rfl | hx
    · omega
    · exact dig_ok (c + 1) _ x hx
theorem P7_zero : P7 0 = 1 := by decide
theorem P7_one : P7 1 = 128 := by decide
theorem P7_ten : (18446744073709551616 : Int) ≤ P7 10 := by decide
theorem putL_dig (c : Nat) : ∀ (k : Nat) (n : Int) (out : List Int), 0 ≤ n → n < P7 (c + 1) → (c = 0 ∨ P7 c ≤ n) → c + 1 ≤ k →
    putL (fun n => n / 128) (fun n _ => n == 0) k n out = some (out ++ dig (c + 1) n) := by
  induction c with
  | zero =>
    intro k n out n0 n1 hc hk
    obtain ⟨k, rfl⟩ : ∃ m, k = m + 1 := ⟨k - 1, by omega⟩
    rw [P7_one] at n1
    simp only [putL, dig]
    rw [if_pos (by simp; omega)]
  | succ c ih =>
    intro k n out n0 n1 hc hk
    obtain ⟨k, rfl⟩ : ∃ m, k = m + 1 := ⟨k - 1, by omega⟩
    have h1 : P7 (c + 1) ≤ n := by
      rcases hc with h | h
      · omega
      · exact h
    have hp := P7_pos c
    rw [P7_succ] at h1
    rw [P7_succ] at n1
    have hp1 := P7_succ c
    simp only [putL]
    rw [if_neg (by simp; omega), ih k (n / 128) _ (by omega) (by omega) (by omega) (by omega)]
    simp [dig]
theorem cnt_ex (n : Int) (n0 : 0 ≤ n) (m : Nat) : n < P7 (m + 1) → ∃ c, c ≤ m ∧ n < P7 (c + 1) ∧ (c = 0 ∨ P7 c ≤ n) := by
  induction m with
  | zero => exact fun h => ⟨0, Nat.le_refl _, h, .inl rfl⟩
  | succ m ih =>
    intro h
    by_cases h1 : n < P7 (m + 1)
    · obtain ⟨c, hc, h2⟩ := ih h1
      exact ⟨c, by omega, h2⟩
    · exact ⟨m + 1, Nat.le_refl _, h, .inr (by omega)⟩
theorem putUF_dig (n : Int) (n0 : 0 ≤ n) (n1 : n < 18446744073709551616) : ∃ c, c ≤ 9 ∧ n < P7 (c + 1) ∧ (c = 0 ∨ P7 c ≤ n) ∧ putUF n = some (dig (c + 1) n) := by
  obtain ⟨c, hc, h1, h2⟩ := cnt_ex n n0 9 (Int.lt_of_lt_of_le n1 P7_ten)
  refine ⟨c, hc, h1, h2, ?_⟩
  unfold putUF
  rw [if_pos n0, if_pos n1]
  have := putL_dig c 100 n [] n0 h1 h2 (by omega)
  simpa using this
/-- Two to the b. -/
def p2 (b : Int) : Int := 2 ^ b.toNat
theorem p2_seven (b : Int) (h : 7 ≤ b) : p2 b = 128 * p2 (b - 7) := by
  unfold p2
  rw [show b.toNat = (b - 7).toNat + 7 from by omega, Int.pow_add]
  omega
theorem p2_pos (b : Int) : 0 < p2 b := Int.pow_pos (by decide)
theorem p2_two7 (b : Int) (h0 : 1 ≤ b) (h : b < 7) : p2 b = two7 b := by
  have hb : b = 1 ∨ b = 2 ∨ b = 3 ∨ b = 4 ∨ b = 5 ∨ b = 6 := by omega
  rcases hb with rfl | rfl | rfl | rfl | rfl | rfl <;> decide
theorem refU_dig (c : Nat) : ∀ (n a b : Int) (rest : List Int), 0 ≤ n → n < P7 (c + 1) → 1 ≤ b → b ≤ 64 →
    refU (dig (c + 1) n ++ rest) a b = if 7 * (c : Int) < b ∧ n < p2 b then (n, a + (c : Int) + 1, 0) else (0, 0, 101) := by
  induction c with
  | zero =>
    intro n a b rest n0 n1 b0 b1
    rw [P7_one] at n1
    have hn : n % 128 = n := by omega
    simp only [dig, List.cons_append, List.nil_append, refU, hn]
    rw [if_pos n1]
    by_cases c2 : b < 7
    · have := p2_two7 b b0 c2
      rw [this]
      by_cases c3 : two7 b ≤ n
      · rw [if_pos ⟨c2, c3⟩, if_neg (by omega)]
      · rw [if_neg (by omega), if_pos (by omega)]
        simp
    · have : n < p2 b := by
        have h1 := p2_seven b (by omega)
        have h2 := p2_pos (b - 7)
        omega
      rw [if_neg (by omega), if_pos ⟨by omega, this⟩]
      simp
  | succ c ih =>
    intro n a b rest n0 n1 b0 b1
    rw [P7_succ] at n1
    simp only [dig, List.cons_append, refU]
    rw [if_neg (by omega)]
    by_cases c2 : b ≤ 7
    · rw [if_pos c2, if_neg (by omega)]
    · rw [if_neg c2, ih (n / 128) (a + 1) (b - 7) rest (by omega) (by omega) (by omega) (by omega)]
      have hs := p2_seven b (by omega)
      by_cases c3 : 7 * (c : Int) < b - 7 ∧ n / 128 < p2 (b - 7)
      · rw [if_pos c3]
        simp only [if_true]
        rw [if_pos ⟨by omega, by omega⟩]
        congr 1
        · omega
        · congr 1
          omega
      · rw [if_neg c3]
        simp only [show ((101 : Int) = 0) = False from by simp, if_false]
        rw [if_neg (by omega)]
theorem bitsor128 (b : Int) (h0 : 0 ≤ b) (h1 : b < 128) : bits .or .u8 b 128 = b + 128 := or128 b h0 h1
/-- A digit more. -/
theorem dig_more (c : Nat) : ∀ n, 0 ≤ n → n < P7 (c + 1) → ((dig (c + 1) n).set c (bits .or .u8 (rd (dig (c + 1) n) (c : Int)) 128)) ++ [0] = dig (c + 2) n := by
  induction c with
  | zero =>
    intro n n0 n1
    rw [P7_one] at n1
    have : rd (dig 1 n) ((0 : Nat) : Int) = n % 128 := by simp [rd, dig]
    rw [this, bitsor128 _ (by omega) (by omega)]
    simp [dig]
    omega
  | succ c ih =>
    intro n n0 n1
    rw [P7_succ] at n1
    have h := ih (n / 128) (by omega) (by omega)
    have hr : rd (dig (c + 2) n) ((c + 1 : Nat) : Int) = rd (dig (c + 1) (n / 128)) (c : Int) := by
      simp [rd, dig]
    show ((n % 128 + 128) :: dig (c + 1) (n / 128)).set (c + 1) (bits .or .u8 (rd (dig (c + 2) n) ((c + 1 : Nat) : Int)) 128) ++ [0] = (n % 128 + 128) :: dig (c + 2) (n / 128)
    rw [hr, List.set_cons_succ, List.cons_append, h]
end Go.Proofs.Ytjhdnlgbboboiaa.Leb
