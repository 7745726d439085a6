/- Any number has the document's bytes, signed and unsigned: the plain law. -/
import Derived.Test.YtjhdnlgbboboiaaQ15x14
import Derived.Test.YtjhdnlgbboboiaaLebDigS
namespace Go.Proofs.Ytjhdnlgbboboiaa.Pure
open Go.RowKit Go.Proofs.Ytjhdnlgbboboiaa.Q15 Go.Proofs.YtjhdnlgbboboiaaW.PrintWords Go.Proofs.YtjhdnlgbboboiaaW.PrintLast Go.Proofs.Ytjhdnlgbboboiaa.Leb
set_option linter.unusedVariables false

theorem putU_ref (c : Nat) : ∀ (k : Nat) (n : Int), 0 ≤ n → n < 18446744073709551616 → n < P7 (c + 1) → (c = 0 ∨ P7 c ≤ n) → c + 1 ≤ k → c ≤ 20 → trunnionref15_PutUint.f k n = some (dig (c + 1) n) := by
  induction c with
  | zero =>
    intro k n n0 n2 n1 hc hk hb
    obtain ⟨k, rfl⟩ : ∃ m, k = m + 1 := ⟨k - 1, by omega⟩
    rw [P7_one] at n1
    simp only [trunnionref15_PutUint.f, dig]
    rw [if_pos n1]
    congr 2
    omega
  | succ c ih =>
    intro k n n0 n2 n1 hc hk hb
    obtain ⟨k, rfl⟩ : ∃ m, k = m + 1 := ⟨k - 1, by omega⟩
    have h1 : P7 (c + 1) ≤ n := by
      rcases hc with h | h
      · omega
      · exact h
    have hp := P7_pos c
    rw [P7_succ] at h1
    rw [P7_succ] at n1
    have hp1 := P7_succ c
    have ht : Int.tmod n 128 = n % 128 := Int.tmod_eq_emod_of_nonneg n0
    have hd : Int.tdiv n 128 = n / 128 := Int.tdiv_eq_ediv_of_nonneg n0
    simp only [trunnionref15_PutUint.f]
    rw [if_neg (by omega), if_pos (by decide), ht, hd, IntKind.wrap_u64, IntKind.wrap_u64]
    have e1 : (128 + n % 128) % 18446744073709551616 % 256 = n % 128 + 128 := by omega
    have e2 : n / 128 % 18446744073709551616 = n / 128 := by omega
    rw [e1, e2]
    simp only [Option.bind_some, List.nil_append]
    rw [ih k (n / 128) (by omega) (by omega) (by omega) (by omega) (by omega) (by omega)]
    simp only [Option.bind_some]
    rw [if_pos (by simp [dig_len]; omega)]
    simp [dig]
theorem two_gen (b : Nat) (hb : b ≤ 63) (d : Nat) : ∀ (k i : Nat), i + d = b → d < k → trunnionref02_Two.l0 k (b : Int) (2 ^ i) (i : Int) = some (2 ^ b) := by
  induction d with
  | zero =>
    intro k i hi hk
    obtain ⟨k, rfl⟩ : ∃ m, k = m + 1 := ⟨k - 1, by omega⟩
    simp only [trunnionref02_Two.l0]
    rw [if_neg (by omega)]
    obtain rfl : i = b := by omega
    rfl
  | succ d ih =>
    intro k i hi hk
    obtain ⟨k, rfl⟩ : ∃ m, k = m + 1 := ⟨k - 1, by omega⟩
    simp only [trunnionref02_Two.l0]
    rw [if_pos (by omega)]
    have e1 : wrap64 ((i : Int) + 1) = ((i + 1 : Nat) : Int) := by unfold wrap64; omega
    have hle : (2 : Int) ^ (i + 1) ≤ 2 ^ 63 := by
      have : 2 ^ (i + 1) ≤ 2 ^ 63 := Nat.pow_le_pow_right (by decide) (by omega)
      exact_mod_cast this
    have hpos : (0 : Int) < 2 ^ (i + 1) := Int.pow_pos (by decide)
    have e2 : IntKind.u64.wrap (2 * 2 ^ i) = 2 ^ (i + 1) := by
      rw [IntKind.wrap_u64, Int.pow_succ] at *
      omega
    rw [e1, e2]
    exact ih k (i + 1) (by omega) (by omega)
theorem down_of (k : Nat) (hk : 64 < k) (s : Int) (h0 : -9223372036854775808 ≤ s) (h1 : s < 9223372036854775808) : trunnionref15_down.f k (u64of s) = some (u64of (s / 128)) := by
  have t1 : trunnionref02_Two.f k 63 = some 9223372036854775808 := two_gen 63 (by omega) 63 k 0 (by omega) (by omega)
  have t2 : trunnionref02_Two.f k 56 = some 72057594037927936 := two_gen 56 (by omega) 56 k 0 (by omega) (by omega)
  have hu : 0 ≤ u64of s ∧ u64of s < 18446744073709551616 := by unfold u64of; omega
  have hd : Int.tdiv (u64of s) 128 = u64of s / 128 := Int.tdiv_eq_ediv_of_nonneg hu.1
  unfold trunnionref15_down.f
  rw [t1]
  simp only [Option.bind_some]
  rw [hd]
  simp only [IntKind.wrap_u64]
  split
  · rw [t2]
    simp only [Option.bind_some]
    unfold u64of at *
    congr 1
    omega
  · unfold u64of at *
    congr 1
    omega
theorem putS_ref (c : Nat) : ∀ (k : Nat) (s : Int), -9223372036854775808 ≤ s → s < 9223372036854775808 → -(64 * P7 c) ≤ s → s < 64 * P7 c → (∀ e, c = e + 1 → ¬ (-(64 * P7 e) ≤ s ∧ s < 64 * P7 e)) → 2 * c + 70 ≤ k → c ≤ 20 → trunnionref15_PutSint.f k (u64of s) = some (dig (c + 1) s) := by
  induction c with
  | zero =>
    intro k s h0 h1 g0 g1 _ hk hb
    obtain ⟨k, rfl⟩ : ∃ m, k = m + 2 := ⟨k - 2, by omega⟩
    rw [P7_zero] at g0 g1
    have hu : 0 ≤ u64of s ∧ u64of s < 18446744073709551616 := by unfold u64of; omega
    have ht : Int.tmod (u64of s) 128 = u64of s % 128 := Int.tmod_eq_emod_of_nonneg hu.1
    have hj : trunnionref15_PutSint.j0 (k + 1) (u64of s) true = some (dig 1 s) := by
      simp only [trunnionref15_PutSint.j0, dig, if_true, ht]
      congr 2
      unfold u64of
      omega
    simp only [trunnionref15_PutSint.f]
    split
    · exact hj
    · have : decide (u64of s ≥ 18446744073709551552) = true := by
        rename_i h
        unfold u64of at *
        simp
        omega
      rw [this]
      exact hj
  | succ c ih =>
    intro k s h0 h1 g0 g1 hc hk hb
    obtain ⟨k, rfl⟩ : ∃ m, k = m + 2 := ⟨k - 2, by omega⟩
    have h2 := hc c rfl
    have hp := P7_pos c
    have hs := P7_succ c
    rw [hs] at g0 g1
    have hn : ¬ (-64 ≤ s ∧ s < 64) := fun h => h2 ⟨by omega, by omega⟩
    have hu : 0 ≤ u64of s ∧ u64of s < 18446744073709551616 := by unfold u64of; omega
    have ht : Int.tmod (u64of s) 128 = u64of s % 128 := Int.tmod_eq_emod_of_nonneg hu.1
    have hd : decide (u64of s ≥ 18446744073709551552) = false := by
      unfold u64of
      simp
      omega
    simp only [trunnionref15_PutSint.f]
    rw [if_neg (by unfold u64of; omega), hd]
    simp only [trunnionref15_PutSint.j0]
    rw [if_neg (by simp), if_pos (by decide), down_of k (by omega) s h0 h1, ht, IntKind.wrap_u64]
    have e1 : (128 + u64of s % 128) % 18446744073709551616 % 256 = s % 128 + 128 := by unfold u64of; omega
    rw [e1]
    simp only [Option.bind_some, List.nil_append]
    rw [ih k (s / 128) (by omega) (by omega) (by omega) (by omega) ?_ (by omega) (by omega)]
    · simp only [Option.bind_some]
      rw [if_pos (by simp [dig_len]; omega)]
      simp [dig]
    · intro e he
      subst he
      have h3 := P7_succ e
      intro h4
      exact h2 ⟨by omega, by omega⟩
theorem LebPuts : trunnionlaw15_LebPuts.Pure := by
  intro n hn
  simp only [Lit.wf, Bool.and_eq_true, decide_eq_true_eq] at hn
  have u1 : IntKind.u64.min = 0 := rfl
  have u2 : IntKind.u64.max = 18446744073709551615 := rfl
  rw [u1, u2] at hn
  obtain ⟨c, hc, h1, h2, h3⟩ := putUF_dig n hn.1 (by omega)
  obtain ⟨s, s0, s1, hs, _⟩ := signed_ex n hn.1 (by omega)
  obtain ⟨e, he, g0, g1, g2, g3⟩ := putSF_dig s s0 s1
  rw [hs] at g3
  refine ⟨200, ?_⟩
  unfold trunnionlaw15_LebPuts.f trunnionlaw15_awake.f leb_PutUint.f leb_PutSint.f
  have r1 := putU_ref c 200 n hn.1 (by omega) h1 h2 (by omega) (by omega)
  have r2 := putS_ref e 200 s s0 s1 g0 g1 g2 (by omega) (by omega)
  rw [hs] at r2
  rw [h3, g3, r1, r2]
  simp
end Go.Proofs.Ytjhdnlgbboboiaa.Pure
