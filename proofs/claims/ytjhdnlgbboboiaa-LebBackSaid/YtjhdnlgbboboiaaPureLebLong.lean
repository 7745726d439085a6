/- A number with bytes more than it needs is read as it was, as long as its bits have room for them, and refused beyond: the plain law. -/
import Derived.Test.YtjhdnlgbboboiaaQ15x9
import Derived.Test.YtjhdnlgbboboiaaLebDig
import Derived.Test.YtjhdnlgbboboiaaPureLebReads
namespace Go.Proofs.Ytjhdnlgbboboiaa.Pure
open Go.RowKit Go.Proofs.Ytjhdnlgbboboiaa.Q15 Go.Proofs.YtjhdnlgbboboiaaW.PrintWords Go.Proofs.YtjhdnlgbboboiaaW.PrintLast Go.Proofs.Ytjhdnlgbboboiaa.Leb
set_option linter.unusedVariables false

theorem uintF_dig (c : Nat) (n b : Int) (rest : List Int) (hr : okB rest) (hl : rest.length ≤ 1000) (hc : c ≤ 100) (n0 : 0 ≤ n) (n1 : n < P7 (c + 1)) (b0 : 1 ≤ b) (b1 : b ≤ 64) :
    leb_Uint.f (dig (c + 1) n ++ rest) 0 b = some (if 7 * (c : Int) < b ∧ n < p2 b then (n, (c : Int) + 1, 0) else (0, 0, 101)) := by
  have hok : okB (dig (c + 1) n ++ rest) := by
    intro x hx
    rcases List.mem_append.1 hx with h | h
    · exact dig_ok _ _ x h
    · exact hr x h
  have hlen : (dig (c + 1) n ++ rest).length = c + 1 + rest.length := by rw [List.length_append, dig_len]
  unfold leb_Uint.f uintF
  rw [if_pos (okBb_of hok), if_pos (by rw [hlen]; omega), scanF_in _ _ _ _ (by omega)]
  have h := uint_is (dig (c + 1) n ++ rest) 0 b hok b0 b1
  simp only [List.drop_zero] at h
  rw [show (((0 : Nat)) : Int) = 0 from rfl] at h
  simp only [Int.toNat_zero, List.drop_zero]
  rw [h, refU_dig c n 0 b rest n0 n1 b0 b1]
  simp
theorem long_loop (n b : Int) (n0 : 0 ≤ n) (hb : b = 64 ∧ n < 18446744073709551616 ∨ b = 32 ∧ n < 4294967296) (more : Nat) (hm : more ≤ 12) (d : Nat) : ∀ (k i c : Nat), i + d = more → d < k → c + d ≤ 30 → n < P7 (c + 1) →
    trunnionlaw15_LebLong.l0 k n b (dig (c + 1) n) (more : Int) (i : Int) = some true := by
  induction d with
  | zero =>
    intro k i c hi hk hc n1
    obtain ⟨k, rfl⟩ : ∃ m, k = m + 1 := ⟨k - 1, by omega⟩
    simp only [trunnionlaw15_LebLong.l0]
    have hU := uintF_dig c n b [] (by intro x hx; simp at hx) (by simp) (by omega) n0 n1 (by omega) (by omega)
    rw [List.append_nil] at hU
    rw [if_neg (by omega), hU, dig_len]
    simp only [Option.bind_some]
    have hq : wrap64 (Int.tdiv (wrap64 (b + 6)) 7) = if b = 64 then 10 else 5 := by
      rcases hb with ⟨rfl, _⟩ | ⟨rfl, _⟩ <;> decide +kernel
    have hp : n < p2 b := by
      rcases hb with ⟨rfl, h⟩ | ⟨rfl, h⟩
      · exact h
      · exact h
    rw [hq]
    by_cases c1 : 7 * (c : Int) < b
    · rw [if_pos (show 7 * (c : Int) < b ∧ n < p2 b from ⟨c1, hp⟩), if_neg (show ¬ (((c + 1 : Nat) : Int) > if b = 64 then 10 else 5) by split <;> omega)]
      simp
    · rw [if_neg (show ¬ (7 * (c : Int) < b ∧ n < p2 b) from fun h => c1 h.1), if_pos (show (((c + 1 : Nat) : Int) > if b = 64 then 10 else 5) by split <;> omega)]
      simp
  | succ d ih =>
    intro k i c hi hk hc n1
    obtain ⟨k, rfl⟩ : ∃ m, k = m + 1 := ⟨k - 1, by omega⟩
    simp only [trunnionlaw15_LebLong.l0]
    have e1 : wrap64 (((dig (c + 1) n).length : Int) - 1) = (c : Int) := by rw [dig_len, w64 (by omega) (by omega)]; omega
    rw [if_pos (by omega), e1, if_pos (by omega), if_pos (by rw [dig_len]; omega)]
    simp only [Option.bind_some]
    rw [if_pos (by simp [dig_len]; omega), Int.toNat_natCast, dig_more c n n0 n1, w64 (n := (i : Int) + 1) (by omega) (by omega)]
    have := ih k (i + 1) (c + 1) (by omega) (by omega) (by omega) (by rw [P7_succ]; have := P7_pos (c + 1); omega)
    rw [show ((i + 1 : Nat) : Int) = (i : Int) + 1 from by omega] at this
    exact this
theorem LebLong : trunnionlaw15_LebLong.Pure := by
  intro n more b hn hm hb
  simp only [Lit.wf, Bool.and_eq_true, decide_eq_true_eq] at hn
  have u1 : IntKind.u64.min = 0 := rfl
  have u2 : IntKind.u64.max = 18446744073709551615 := rfl
  rw [u1, u2] at hn
  have ht : ∀ k, trunnionlaw15_LebLong.j0 (k + 1) n more b true = some true := fun k => by simp [trunnionlaw15_LebLong.j0]
  have hf : 0 ≤ more → more ≤ 12 → (b = 64 ∧ n < 18446744073709551616 ∨ b = 32 ∧ n < 4294967296) → trunnionlaw15_LebLong.j0 100 n more b false = some true := by
    intro m0 m1 hbb
    obtain ⟨c, hc, h1, h2, h3⟩ := putUF_dig n hn.1 (by omega)
    obtain ⟨m, rfl⟩ := Int.eq_ofNat_of_zero_le m0
    simp only [trunnionlaw15_LebLong.j0]
    rw [if_neg (by simp)]
    unfold leb_PutUint.f
    rw [h3]
    simp only [Option.bind_some]
    exact long_loop n b hn.1 hbb m (by omega) m 99 0 c (by omega) (by omega) (by omega) h1
  refine ⟨100, ?_⟩
  unfold trunnionlaw15_LebLong.f trunnionlaw15_awake.f
  simp only [Option.bind_some, if_true]
  by_cases c1 : more < 0
  · rw [if_pos c1]; exact ht _
  rw [if_neg c1]
  by_cases c2 : more > 12
  · rw [if_pos c2]; exact ht _
  rw [if_neg c2]
  by_cases c3 : b = 32
  · rw [if_pos c3]
    by_cases c4 : n / 4294967296 = 0
    · have : (n / 4294967296 != 0) = false := by simpa using c4
      rw [this]
      exact hf (by omega) (by omega) (.inr ⟨c3, by omega⟩)
    · have : (n / 4294967296 != 0) = true := by simpa using c4
      rw [this]
      exact ht _
  rw [if_neg c3]
  by_cases c4 : b = 64
  · rw [if_pos c4]
    exact hf (by omega) (by omega) (.inl ⟨c4, by omega⟩)
  · rw [if_neg c4]
    exact ht _
end Go.Proofs.Ytjhdnlgbboboiaa.Pure
