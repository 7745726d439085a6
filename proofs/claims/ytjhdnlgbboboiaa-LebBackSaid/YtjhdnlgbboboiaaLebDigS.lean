/- The plain law of leb's writers, signed: the bytes that are put are the digits of the signed number. No program in sight. -/
import Derived.Test.YtjhdnlgbboboiaaLebDig
namespace Go.Proofs.Ytjhdnlgbboboiaa.Leb
open Go.RowKit Go.Proofs.YtjhdnlgbboboiaaW.PrintWords
set_option linter.unusedVariables false

/-- A signed number of 64 bits as the unsigned one. -/
def u64of (s : Int) : Int := s % 18446744073709551616
theorem shS_of (s : Int) (h0 : -9223372036854775808 ≤ s) (h1 : s < 9223372036854775808) : shS (u64of s) = u64of (s / 128) := by
  unfold shS u64of
  have : wrap64 (s % 18446744073709551616) = s := by unfold wrap64; omega
  rw [this, IntKind.wrap_u64]
theorem dnS_of (s : Int) (h0 : -9223372036854775808 ≤ s) (h1 : s < 9223372036854775808) : dnS (u64of (s / 128)) (u64of s % 128) = decide (-64 ≤ s ∧ s < 64) := by
  unfold dnS u64of
  split
  · rw [Bool.eq_iff_iff]; simp; omega
  · split
    · rw [Bool.eq_iff_iff]; simp; omega
    · symm; simp; omega
theorem putL_digS (c : Nat) : ∀ (k : Nat) (s : Int) (out : List Int), -9223372036854775808 ≤ s → s < 9223372036854775808 → -(64 * P7 c) ≤ s → s < 64 * P7 c → (∀ e, c = e + 1 → ¬ (-(64 * P7 e) ≤ s ∧ s < 64 * P7 e)) → c + 1 ≤ k →
    putL shS dnS k (u64of s) out = some (out ++ dig (c + 1) s) := by
  induction c with
  | zero =>
    intro k s out h0 h1 g0 g1 _ hk
    obtain ⟨k, rfl⟩ : ∃ m, k = m + 1 := ⟨k - 1, by omega⟩
    rw [P7_zero] at g0 g1
    simp only [putL, dig]
    rw [shS_of s h0 h1, dnS_of s h0 h1, if_pos (by simp; omega)]
    have : u64of s % 128 = s % 128 := by unfold u64of; omega
    rw [this]
  | succ c ih =>
    intro k s out h0 h1 g0 g1 hc hk
    obtain ⟨k, rfl⟩ : ∃ m, k = m + 1 := ⟨k - 1, by omega⟩
    have h2 := hc c rfl
    have hp := P7_pos c
    have hs := P7_succ c
    rw [hs] at g0 g1
    have hn : ¬ (-64 ≤ s ∧ s < 64) := fun h => h2 ⟨by omega, by omega⟩
    simp only [putL]
    rw [shS_of s h0 h1, dnS_of s h0 h1, if_neg (by simpa using hn)]
    rw [ih k (s / 128) _ (by omega) (by omega) (by omega) (by omega) ?_ (by omega)]
    · have : u64of s % 128 = s % 128 := by unfold u64of; omega
      rw [this]
      simp [dig]
    · intro e he
      subst he
      have h3 := P7_succ e
      intro h4
      exact h2 ⟨by omega, by omega⟩
theorem cntS_ex (s : Int) (m : Nat) : -(64 * P7 m) ≤ s → s < 64 * P7 m → ∃ c, c ≤ m ∧ -(64 * P7 c) ≤ s ∧ s < 64 * P7 c ∧ (∀ e, c = e + 1 → ¬ (-(64 * P7 e) ≤ s ∧ s < 64 * P7 e)) := by
  induction m with
  | zero => exact fun h0 h1 => ⟨0, Nat.le_refl _, h0, h1, fun e he => by omega⟩
  | succ m ih =>
    intro h0 h1
    by_cases h2 : -(64 * P7 m) ≤ s ∧ s < 64 * P7 m
    · obtain ⟨c, hc, h3⟩ := ih h2.1 h2.2
      exact ⟨c, by omega, h3⟩
    · refine ⟨m + 1, Nat.le_refl _, h0, h1, fun e he => ?_⟩
      obtain rfl : m = e := by omega
      exact h2
theorem P7_nine : (9223372036854775808 : Int) ≤ 64 * P7 9 := by decide
theorem putSF_dig (s : Int) (h0 : -9223372036854775808 ≤ s) (h1 : s < 9223372036854775808) : ∃ c, c ≤ 9 ∧ -(64 * P7 c) ≤ s ∧ s < 64 * P7 c ∧ (∀ e, c = e + 1 → ¬ (-(64 * P7 e) ≤ s ∧ s < 64 * P7 e)) ∧ putSF (u64of s) = some (dig (c + 1) s) := by
  have := P7_nine
  obtain ⟨c, hc, g0, g1, g2⟩ := cntS_ex s 9 (by omega) (by omega)
  refine ⟨c, hc, g0, g1, g2, ?_⟩
  have hu : 0 ≤ u64of s ∧ u64of s < 18446744073709551616 := by unfold u64of; omega
  unfold putSF
  rw [if_pos hu.1, if_pos hu.2, putL_digS c 100 s [] h0 h1 g0 g1 g2 (by omega)]
  simp
theorem signed_ex (n : Int) (n0 : 0 ≤ n) (n1 : n < 18446744073709551616) : ∃ s, -9223372036854775808 ≤ s ∧ s < 9223372036854775808 ∧ u64of s = n ∧ s = wrap64 n := by
  refine ⟨wrap64 n, ?_⟩
  unfold u64of wrap64
  omega
end Go.Proofs.Ytjhdnlgbboboiaa.Leb
