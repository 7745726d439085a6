/- The plain law of leb's readers: what the program's loop says is what the document's recursion says. No program in sight. -/
import Derived.Test.YtjhdnlgbboboiaaLebStub
import Derived.Lib.EndianBits
namespace Go.Proofs.Ytjhdnlgbboboiaa.Leb
open Go.RowKit Go.Proofs.YtjhdnlgbboboiaaW.PrintWords
set_option linter.unusedVariables false

/-- Two to the seven times j. -/
def P7 (j : Nat) : Int := 2 ^ (7 * j)
theorem toNat7 (j : Nat) : (7 * (j : Int)).toNat = 7 * j := by omega
theorem ten {j : Nat} (h : j ≤ 9) : j = 0 ∨ j = 1 ∨ j = 2 ∨ j = 3 ∨ j = 4 ∨ j = 5 ∨ j = 6 ∨ j = 7 ∨ j = 8 ∨ j = 9 := by omega
theorem seriesN_add (j : Nat) (hj : j ≤ 9) (n x : Int) (n0 : 0 ≤ n) (n1 : n < P7 j) : seriesN n x (7 * (j : Int)) = n + x % 128 * P7 j % 18446744073709551616 := by
  unfold seriesN
  rw [toNat7, IntKind.wrap_u64]
  have e : (2 : Int) ^ (7 * j) = P7 j := rfl
  rw [e]
  have hm : 0 ≤ x % 128 * P7 j % 18446744073709551616 := Int.emod_nonneg _ (by decide)
  have hm1 : x % 128 * P7 j % 18446744073709551616 < 18446744073709551616 := Int.emod_lt_of_pos _ (by decide)
  have hd : x % 128 * P7 j % 18446744073709551616 % 2 ^ (7 * j) = 0 := by
    rcases ten hj with rfl | rfl | rfl | rfl | rfl | rfl | rfl | rfl | rfl | rfl <;> simp only [P7, Nat.reduceMul, Int.reducePow] <;> omega
  have hp : P7 j ≤ 2 ^ 64 := by
    rcases ten hj with rfl | rfl | rfl | rfl | rfl | rfl | rfl | rfl | rfl | rfl <;> simp only [P7, Nat.reduceMul, Int.reducePow] <;> omega
  exact bits_join_low .u64 64 (by decide) (fun n h0 h1 => by rw [IntKind.wrap_u64]; omega) (7 * j) n _ n0 n1 (by omega) hm hd (by simpa using hm1)

/-- The document's unsigned number. -/
def refU : List Int → Int → Int → Int × Int × Int
  | [], a, b => (0, 0, 100)
  | x :: xs, a, b =>
    if x < 128 then (if b < 7 ∧ two7 b ≤ x then (0, 0, 101) else (x, a + 1, 0))
    else if b ≤ 7 then (0, 0, 101)
    else
      let r := refU xs (a + 1) (b - 7)
      if r.2.2 = 0 then (x - 128 + 128 * r.1, r.2.1, 0) else (0, 0, r.2.2)
theorem two7_range (b : Int) (h0 : 1 ≤ b) (h : b < 7) : 2 ≤ two7 b ∧ two7 b ≤ 64 := by
  unfold two7
  repeat' split
  all_goals omega
theorem P7_succ (j : Nat) : P7 (j + 1) = 128 * P7 j := by
  unfold P7
  rw [show 7 * (j + 1) = 7 * j + 7 from by omega, Int.pow_add]
  omega
theorem P7_pos (j : Nat) : 0 < P7 j := Int.pow_pos (by decide)
/-- What a number of b bits fits below, with what came before. -/
theorem scanU (l : List Int) : ∀ (a n : Int) (j : Nat) (b : Int), okB l → 0 ≤ n → n < P7 j → j ≤ 9 → 1 ≤ b → 7 * (j : Int) + b ≤ 64 →
    uintR (scanL LU l a n (7 * (j : Int)) b) = (if (refU l a b).2.2 = 0 then (n + P7 j * (refU l a b).1, (refU l a b).2.1, 0) else (0, 0, (refU l a b).2.2)) ∧ ((refU l a b).2.2 = 0 → 0 ≤ (refU l a b).1 ∧ n + P7 j * (refU l a b).1 < 18446744073709551616) := by
  induction l with
  | nil => intro a n j b _ _ _ _ _ _; simp [scanL, uintR, refU]
  | cons x xs ih =>
    intro a n j b hok n0 n1 hj b1 hb
    have hx := hok x (by simp)
    have hxs : okB xs := fun y hy => hok y (by simp [hy])
    have hpos := P7_pos j
    unfold scanL refU
    by_cases c1 : x < 128
    · rw [if_pos c1, if_pos c1]
      by_cases c2 : b < 7 ∧ two7 b ≤ x
      · have : LU x b = false := by unfold LU; rw [if_neg (by omega)]; simp; omega
        rw [if_pos c2, this]
        simp [uintR]
      · have hLU : LU x b = true := by
          unfold LU
          split
          · rfl
          · simp; omega
        rw [if_neg c2, hLU]
        have hfit : n + P7 j * x < 18446744073709551616 ∧ x % 128 * P7 j % 18446744073709551616 = P7 j * x := by
          have hx7 : x % 128 = x := by omega
          rw [hx7]
          rcases ten hj with rfl | rfl | rfl | rfl | rfl | rfl | rfl | rfl | rfl | rfl
          case inr.inr.inr.inr.inr.inr.inr.inr.inr =>
            have : b = 1 := by omega
            subst this
            simp [two7] at c2
            simp only [P7, Nat.reduceMul, Int.reducePow] at *
            omega
          all_goals
            simp only [P7, Nat.reduceMul, Int.reducePow] at *
            omega
        simp only [uintR, if_true]
        rw [seriesN_add j hj n x n0 n1, hfit.2]
        exact ⟨rfl, fun _ => ⟨hx.1, hfit.1⟩⟩
    · rw [if_neg c1, if_neg c1]
      by_cases c2 : b ≤ 7
      · rw [if_pos c2, if_pos c2]
        simp [uintR]
      · rw [if_neg c2, if_neg c2]
        have hj8 : j ≤ 8 := by omega
        have hs : seriesN n x (7 * (j : Int)) = n + P7 j * (x - 128) := by
          rw [seriesN_add j hj n x n0 n1, show x % 128 = x - 128 from by omega]
          rcases ten hj with rfl | rfl | rfl | rfl | rfl | rfl | rfl | rfl | rfl | rfl
          case inr.inr.inr.inr.inr.inr.inr.inr.inr => omega
          all_goals
            simp only [P7, Nat.reduceMul, Int.reducePow] at *
            omega
        have hn0 : 0 ≤ n + P7 j * (x - 128) := by have := Int.mul_nonneg (Int.le_of_lt hpos) (show 0 ≤ x - 128 by omega); omega
        have hn1 : n + P7 j * (x - 128) < P7 (j + 1) := by
          rw [P7_succ]
          have := Int.mul_le_mul_of_nonneg_left (show x - 128 ≤ 127 by omega) (Int.le_of_lt hpos)
          omega
        have := ih (a + 1) (n + P7 j * (x - 128)) (j + 1) (b - 7) hxs hn0 hn1 (by omega) (by omega) (by omega)
        rw [show (7 * ((j + 1 : Nat) : Int)) = 7 * (j : Int) + 7 from by omega] at this
        rw [hs, this.1]
        generalize refU xs (a + 1) (b - 7) = r at *
        have e : n + P7 j * (x - 128) + P7 (j + 1) * r.1 = n + P7 j * (x - 128 + 128 * r.1) := by rw [P7_succ, Int.mul_add, ← Int.mul_assoc, Int.mul_comm 128 (P7 j)]; omega
        rw [e] at this ⊢
        by_cases c3 : r.2.2 = 0
        · simp only [c3, if_true]
          refine ⟨by simp, fun _ => ?_⟩
          have h2 := this.2 c3
          exact ⟨by omega, h2.2⟩
        · simp [c3]
/-- The document's signed number, with its sign. -/
def refS : List Int → Int → Int → Int × Int × Int
  | [], a, b => (0, 0, 100)
  | x :: xs, a, b =>
    if x < 128 then (if LS x b = true then ((if 64 ≤ x then x - 128 else x), a + 1, 0) else (0, 0, 101))
    else if b ≤ 7 then (0, 0, 101)
    else
      let r := refS xs (a + 1) (b - 7)
      if r.2.2 = 0 then (x - 128 + 128 * r.1, r.2.1, 0) else (0, 0, r.2.2)
theorem or_low (i : Nat) (y x : Int) (y0 : 0 ≤ y) (y1 : y < 2 ^ i) (y2 : y < 2 ^ 64) (x0 : 0 ≤ x) (hx : x % 2 ^ i = 0) (x1 : x < 2 ^ 64) : bits .or .u64 y x = y + x :=
  bits_join_low .u64 64 (by decide) (fun n h0 h1 => by rw [IntKind.wrap_u64]; omega) i y x y0 y1 y2 x0 hx x1
/-- The last byte of a signed number. -/
theorem sintN_last (j : Nat) (hj : j ≤ 9) (n x : Int) (n0 : 0 ≤ n) (n1 : n < P7 j) (x0 : 0 ≤ x) (x1 : x < 128) :
    sintN (seriesN n x (7 * (j : Int))) (7 * (j : Int) + 7) = (n + P7 j * (if 64 ≤ x then x - 128 else x)) % 18446744073709551616 := by
  rw [seriesN_add j hj n x n0 n1, show x % 128 = x from by omega]
  unfold sintN
  by_cases c9 : j = 9
  · subst c9
    rw [if_neg (by decide)]
    simp only [P7, Nat.reduceMul, Int.reducePow] at *
    split <;> omega
  · have hj8 : j ≤ 8 := by omega
    rw [if_pos (by omega)]
    have e1 : (7 * (j : Int) + 7).toNat = 7 * j + 7 := by omega
    rw [e1, IntKind.wrap_u64]
    have hx : x * P7 j % 18446744073709551616 = P7 j * x := by
      rcases ten hj with rfl | rfl | rfl | rfl | rfl | rfl | rfl | rfl | rfl | rfl
      case inr.inr.inr.inr.inr.inr.inr.inr.inr => omega
      all_goals
        simp only [P7, Nat.reduceMul, Int.reducePow] at *
        omega
    rw [hx]
    have hbit : (n + P7 j * x) / 2 ^ (7 * j + 7 - 1) % 2 = x / 64 := by
      rcases ten hj with rfl | rfl | rfl | rfl | rfl | rfl | rfl | rfl | rfl | rfl
      case inr.inr.inr.inr.inr.inr.inr.inr.inr => omega
      all_goals
        simp only [P7, Nat.reduceMul, Nat.reduceAdd, Nat.reduceSub, Int.reducePow] at *
        omega
    rw [hbit]
    have hlt : 0 ≤ n + P7 j * x ∧ n + P7 j * x < 2 ^ (7 * j + 7) ∧ n + P7 j * x < 2 ^ 64 := by
      rcases ten hj with rfl | rfl | rfl | rfl | rfl | rfl | rfl | rfl | rfl | rfl
      case inr.inr.inr.inr.inr.inr.inr.inr.inr => omega
      all_goals
        simp only [P7, Nat.reduceMul, Nat.reduceAdd, Int.reducePow] at *
        omega
    by_cases c : 64 ≤ x
    · rw [if_pos (by omega), if_pos c]
      have hy : (18446744073709551615 * 2 ^ (7 * j + 7) : Int) % 18446744073709551616 = 18446744073709551616 - 128 * P7 j := by
        rcases ten hj with rfl | rfl | rfl | rfl | rfl | rfl | rfl | rfl | rfl | rfl
        case inr.inr.inr.inr.inr.inr.inr.inr.inr => omega
        all_goals
          simp only [P7, Nat.reduceMul, Nat.reduceAdd, Int.reducePow]
          try decide
      rw [hy]
      have hz : 0 ≤ 18446744073709551616 - 128 * P7 j ∧ (18446744073709551616 - 128 * P7 j) % 2 ^ (7 * j + 7) = 0 ∧ 18446744073709551616 - 128 * P7 j < 2 ^ 64 := by
        rcases ten hj with rfl | rfl | rfl | rfl | rfl | rfl | rfl | rfl | rfl | rfl
        case inr.inr.inr.inr.inr.inr.inr.inr.inr => omega
        all_goals
          simp only [P7, Nat.reduceMul, Nat.reduceAdd, Int.reducePow]
          try decide
      rw [or_low (7 * j + 7) _ _ hlt.1 hlt.2.1 hlt.2.2 hz.1 hz.2.1 hz.2.2]
      rcases ten hj with rfl | rfl | rfl | rfl | rfl | rfl | rfl | rfl | rfl | rfl
      case inr.inr.inr.inr.inr.inr.inr.inr.inr => omega
      all_goals
        simp only [P7, Nat.reduceMul, Nat.reduceAdd, Int.reducePow] at *
        omega
    · rw [if_neg (by omega), if_neg c]
      have := hlt.2.2
      rw [Int.emod_eq_of_lt hlt.1 (by simpa using this)]
theorem scanS (l : List Int) : ∀ (a n : Int) (j : Nat) (b : Int), okB l → 0 ≤ n → n < P7 j → j ≤ 9 → 1 ≤ b → 7 * (j : Int) + b ≤ 64 →
    sintR (scanL LS l a n (7 * (j : Int)) b) = (if (refS l a b).2.2 = 0 then ((n + P7 j * (refS l a b).1) % 18446744073709551616, (refS l a b).2.1, 0) else (0, 0, (refS l a b).2.2)) := by
  induction l with
  | nil => intro a n j b _ _ _ _ _ _; simp [scanL, sintR, refS]
  | cons x xs ih =>
    intro a n j b hok n0 n1 hj b1 hb
    have hx := hok x (by simp)
    have hxs : okB xs := fun y hy => hok y (by simp [hy])
    have hpos := P7_pos j
    unfold scanL refS
    by_cases c1 : x < 128
    · rw [if_pos c1, if_pos c1]
      by_cases c2 : LS x b = true
      · rw [if_pos c2, if_pos c2]
        simp only [sintR, if_true]
        rw [sintN_last j hj n x n0 n1 hx.1 c1]
      · rw [if_neg c2, if_neg c2]
        simp [sintR]
    · rw [if_neg c1, if_neg c1]
      by_cases c2 : b ≤ 7
      · rw [if_pos c2, if_pos c2]
        simp [sintR]
      · rw [if_neg c2, if_neg c2]
        have hj8 : j ≤ 8 := by omega
        have hs : seriesN n x (7 * (j : Int)) = n + P7 j * (x - 128) := by
          rw [seriesN_add j hj n x n0 n1, show x % 128 = x - 128 from by omega]
          rcases ten hj with rfl | rfl | rfl | rfl | rfl | rfl | rfl | rfl | rfl | rfl
          case inr.inr.inr.inr.inr.inr.inr.inr.inr => omega
          all_goals
            simp only [P7, Nat.reduceMul, Int.reducePow] at *
            omega
        have hn0 : 0 ≤ n + P7 j * (x - 128) := by have := Int.mul_nonneg (Int.le_of_lt hpos) (show 0 ≤ x - 128 by omega); omega
        have hn1 : n + P7 j * (x - 128) < P7 (j + 1) := by
          rw [P7_succ]
          have := Int.mul_le_mul_of_nonneg_left (show x - 128 ≤ 127 by omega) (Int.le_of_lt hpos)
          omega
        have := ih (a + 1) (n + P7 j * (x - 128)) (j + 1) (b - 7) hxs hn0 hn1 (by omega) (by omega) (by omega)
        rw [show (7 * ((j + 1 : Nat) : Int)) = 7 * (j : Int) + 7 from by omega] at this
        rw [hs, this]
        generalize refS xs (a + 1) (b - 7) = r at *
        have e : n + P7 j * (x - 128) + P7 (j + 1) * r.1 = n + P7 j * (x - 128 + 128 * r.1) := by rw [P7_succ, Int.mul_add, ← Int.mul_assoc, Int.mul_comm 128 (P7 j)]; omega
        rw [e]
        by_cases c3 : r.2.2 = 0
        · simp [c3]
        · simp [c3]
end Go.Proofs.Ytjhdnlgbboboiaa.Leb
