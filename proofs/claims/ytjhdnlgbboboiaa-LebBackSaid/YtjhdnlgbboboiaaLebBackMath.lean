/- What is put is read as it was, of as many bits as it has; cut off it ends too early: the plain law. No program in sight. -/
import Derived.Test.YtjhdnlgbboboiaaLebDigS
import Derived.Test.YtjhdnlgbboboiaaPureLebLong
namespace Go.Proofs.Ytjhdnlgbboboiaa.Leb
open Go.RowKit Go.Proofs.YtjhdnlgbboboiaaW.PrintWords Go.Proofs.Ytjhdnlgbboboiaa.Pure
set_option linter.unusedVariables false

theorem refU_open (c : Nat) : ∀ (n a b : Int), 7 * (c : Int) < b → refU ((dig (c + 1) n).take c) a b = (0, 0, 100) := by
  induction c with
  | zero => intro n a b h; rfl
  | succ c ih =>
    intro n a b h
    simp only [dig, List.take_succ_cons, refU]
    rw [if_neg (by omega), if_neg (by omega), ih (n / 128) (a + 1) (b - 7) (by omega)]
    simp
theorem refS_open (c : Nat) : ∀ (n a b : Int), 7 * (c : Int) < b → refS ((dig (c + 1) n).take c) a b = (0, 0, 100) := by
  induction c with
  | zero => intro n a b h; rfl
  | succ c ih =>
    intro n a b h
    simp only [dig, List.take_succ_cons, refS]
    rw [if_neg (by omega), if_neg (by omega), ih (n / 128) (a + 1) (b - 7) (by omega)]
    simp
theorem p2_mono (a b : Int) (h : a ≤ b) : p2 a ≤ p2 b := by
  unfold p2
  have : 2 ^ a.toNat ≤ 2 ^ b.toNat := Nat.pow_le_pow_right (by decide) (by omega)
  exact_mod_cast this
theorem p2_P7 (c : Nat) : p2 (7 * (c : Int)) = P7 c := by unfold p2 P7; rw [toNat7]
theorem refS_dig (c : Nat) : ∀ (s a b : Int) (rest : List Int), -(64 * P7 c) ≤ s → s < 64 * P7 c → 1 ≤ b → b ≤ 64 →
    refS (dig (c + 1) s ++ rest) a b = if 7 * (c : Int) < b ∧ -(p2 (b - 1)) ≤ s ∧ s < p2 (b - 1) then (s, a + (c : Int) + 1, 0) else (0, 0, 101) := by
  induction c with
  | zero =>
    intro s a b rest n0 n1 b0 b1
    rw [P7_zero] at n0 n1
    simp only [dig, List.cons_append, List.nil_append, refS]
    rw [if_pos (by omega)]
    have hv : (if 64 ≤ s % 128 then s % 128 - 128 else s % 128) = s := by split <;> omega
    rw [hv]
    by_cases c2 : b < 7
    · have hb : b = 1 ∨ b = 2 ∨ b = 3 ∨ b = 4 ∨ b = 5 ∨ b = 6 := by omega
      have hp : p2 (b - 1) = two7 b / 2 := by rcases hb with rfl | rfl | rfl | rfl | rfl | rfl <;> decide
      have hh : 1 ≤ two7 b / 2 ∧ two7 b / 2 ≤ 32 := by have := two7_range b b0 c2; omega
      have hLS : LS (s % 128) b = decide (-(p2 (b - 1)) ≤ s ∧ s < p2 (b - 1)) := by
        unfold LS
        rw [if_neg (by omega), hp]
        split
        · rw [Bool.eq_iff_iff]; simp; omega
        · rw [Bool.eq_iff_iff]; simp; omega
      rw [hLS]
      by_cases c3 : -(p2 (b - 1)) ≤ s ∧ s < p2 (b - 1)
      · rw [if_pos (by simpa using c3), if_pos ⟨by omega, c3⟩]
        simp
      · rw [if_neg (by simpa using c3), if_neg (fun h => c3 h.2)]
    · have hp : 64 ≤ p2 (b - 1) := p2_mono 6 (b - 1) (by omega)
      have hLS : LS (s % 128) b = true := if_pos (by omega)
      rw [hLS, if_pos rfl, if_pos ⟨by omega, by omega, by omega⟩]
      simp
  | succ c ih =>
    intro s a b rest n0 n1 b0 b1
    rw [P7_succ] at n0 n1
    simp only [dig, List.cons_append, refS]
    rw [if_neg (by omega)]
    by_cases c2 : b ≤ 7
    · rw [if_pos c2, if_neg (by omega)]
    · rw [if_neg c2, ih (s / 128) (a + 1) (b - 7) rest (by omega) (by omega) (by omega) (by omega)]
      have hs : p2 (b - 1) = 128 * p2 (b - 7 - 1) := by
        have := p2_seven (b - 1) (by omega)
        rw [show b - 1 - 7 = b - 7 - 1 from by omega] at this
        exact this
      by_cases c3 : 7 * (c : Int) < b - 7 ∧ -(p2 (b - 7 - 1)) ≤ s / 128 ∧ s / 128 < p2 (b - 7 - 1)
      · rw [if_pos c3]
        simp only [if_true]
        rw [if_pos ⟨by omega, by omega, by omega⟩]
        congr 1
        · omega
        · congr 1
          omega
      · rw [if_neg c3]
        simp only [show ((101 : Int) = 0) = False from by simp, if_false]
        rw [if_neg (by omega)]
theorem sintF_is (l : List Int) (hok : okB l) (hl : l.length ≤ 2000) (b : Int) (b0 : 1 ≤ b) (b1 : b ≤ 64) : sintF l 0 b = some ((refS l 0 b).1 % 18446744073709551616, (refS l 0 b).2.1, (refS l 0 b).2.2) := by
  unfold sintF
  rw [if_pos (okBb_of hok), if_pos (by omega), scanF_in _ _ _ _ (by omega)]
  have h := sint_is l 0 b hok b0 b1
  simp only [List.drop_zero] at h
  rw [show (((0 : Nat)) : Int) = 0 from rfl] at h
  simp only [Int.toNat_zero, List.drop_zero]
  rw [h]
theorem uintF_is (l : List Int) (hok : okB l) (hl : l.length ≤ 2000) (b : Int) (b0 : 1 ≤ b) (b1 : b ≤ 64) : uintF l 0 b = some (refU l 0 b) := by
  unfold uintF
  rw [if_pos (okBb_of hok), if_pos (by omega), scanF_in _ _ _ _ (by omega)]
  have h := uint_is l 0 b hok b0 b1
  simp only [List.drop_zero] at h
  rw [show (((0 : Nat)) : Int) = 0 from rfl] at h
  simp only [Int.toNat_zero, List.drop_zero]
  rw [h]
theorem okB_app {a b : List Int} (h : okB a) (k : okB b) : okB (a ++ b) := by
  intro x hx
  rcases List.mem_append.1 hx with h1 | h1
  · exact h x h1
  · exact k x h1
theorem okB_take {a : List Int} (h : okB a) (m : Nat) : okB (a.take m) := fun x hx => h x (List.mem_of_mem_take hx)
/-- All that the law asks of the unsigned side. -/
theorem backU (n : Int) (n0 : 0 ≤ n) (n1 : n < 18446744073709551616) (more : List Int) (hm : okB more) (hl : more.length ≤ 100) : ∃ c, c ≤ 9 ∧ putUF n = some (dig (c + 1) n) ∧
    uintF (dig (c + 1) n ++ more) 0 64 = some (n, (c : Int) + 1, 0) ∧ uintF ((dig (c + 1) n ++ more).take c) 0 64 = some (0, 0, 100) ∧
    ∀ b, 1 ≤ b → b ≤ 64 → (n < p2 b → uintF (dig (c + 1) n ++ more) 0 b = some (n, (c : Int) + 1, 0)) ∧ (¬ n < p2 b → uintF (dig (c + 1) n ++ more) 0 b = some (0, 0, 101)) := by
  obtain ⟨c, hc, h1, h2, h3⟩ := putUF_dig n n0 n1
  have hall : ∀ b, 1 ≤ b → b ≤ 64 → (n < p2 b → uintF (dig (c + 1) n ++ more) 0 b = some (n, (c : Int) + 1, 0)) ∧ (¬ n < p2 b → uintF (dig (c + 1) n ++ more) 0 b = some (0, 0, 101)) := by
    intro b b0 b1
    have hd := uintF_dig c n b more hm (by omega) (by omega) n0 h1 b0 b1
    unfold Go.Proofs.Ytjhdnlgbboboiaa.Q15.leb_Uint.f at hd
    constructor
    · intro hp
      have h7 : 7 * (c : Int) < b := by
        rcases h2 with h2 | h2
        · omega
        · by_cases h4 : 7 * (c : Int) < b
          · exact h4
          · have := p2_mono b (7 * (c : Int)) (by omega)
            rw [p2_P7] at this
            omega
      rw [hd, if_pos ⟨h7, hp⟩]
    · intro hp
      rw [hd, if_neg (fun h => hp h.2)]
  refine ⟨c, hc, h3, (hall 64 (by decide) (by decide)).1 (by unfold p2; exact n1), ?_, hall⟩
  rw [List.take_append_of_le_length (by rw [dig_len]; omega), uintF_is _ (okB_take (dig_ok _ _) _) (by rw [List.length_take, dig_len]; omega) 64 (by decide) (by decide), refU_open c n 0 64 (by omega)]
theorem backS (n : Int) (n0 : 0 ≤ n) (n1 : n < 18446744073709551616) (more : List Int) (hm : okB more) (hl : more.length ≤ 100) : ∃ e, e ≤ 9 ∧ putSF n = some (dig (e + 1) (wrap64 n)) ∧
    sintF (dig (e + 1) (wrap64 n) ++ more) 0 64 = some (n, (e : Int) + 1, 0) ∧ sintF ((dig (e + 1) (wrap64 n) ++ more).take e) 0 64 = some (0, 0, 100) ∧
    ∀ b, 1 ≤ b → b ≤ 64 → (-(p2 (b - 1)) ≤ wrap64 n ∧ wrap64 n < p2 (b - 1) → sintF (dig (e + 1) (wrap64 n) ++ more) 0 b = some (n, (e : Int) + 1, 0)) ∧ (¬ (-(p2 (b - 1)) ≤ wrap64 n ∧ wrap64 n < p2 (b - 1)) → sintF (dig (e + 1) (wrap64 n) ++ more) 0 b = some (0, 0, 101)) := by
  obtain ⟨s, s0, s1, hs, hw⟩ := signed_ex n n0 n1
  rw [← hw]
  obtain ⟨e, he, g0, g1, g2, g3⟩ := putSF_dig s s0 s1
  rw [hs] at g3
  have hn : s % 18446744073709551616 = n := hs
  have hlen : (dig (e + 1) s ++ more).length ≤ 2000 := by rw [List.length_append, dig_len]; omega
  have hall : ∀ b, 1 ≤ b → b ≤ 64 → (-(p2 (b - 1)) ≤ s ∧ s < p2 (b - 1) → sintF (dig (e + 1) s ++ more) 0 b = some (n, (e : Int) + 1, 0)) ∧ (¬ (-(p2 (b - 1)) ≤ s ∧ s < p2 (b - 1)) → sintF (dig (e + 1) s ++ more) 0 b = some (0, 0, 101)) := by
    intro b b0 b1
    rw [sintF_is _ (okB_app (dig_ok _ _) hm) hlen b b0 b1, refS_dig e s 0 b more g0 g1 b0 b1]
    constructor
    · intro hp
      have h7 : 7 * (e : Int) < b := by
        cases e with
        | zero => omega
        | succ f =>
          have h3 := g2 f rfl
          by_cases h4 : 7 * ((f + 1 : Nat) : Int) < b
          · exact h4
          · exfalso
            apply h3
            have := p2_mono (b - 1) (7 * (f : Int) + 6) (by omega)
            have e6 : p2 (7 * (f : Int) + 6) = 64 * P7 f := by
              unfold p2 P7
              rw [show (7 * (f : Int) + 6).toNat = 7 * f + 6 from by omega, Int.pow_add]
              omega
            rw [e6] at this
            omega
      rw [if_pos ⟨h7, hp⟩, hn]
      simp
    · intro hp
      rw [if_neg (fun h => hp h.2)]
      simp
  refine ⟨e, he, g3, (hall 64 (by decide) (by decide)).1 ⟨?_, ?_⟩, ?_, hall⟩
  · have : p2 (64 - 1) = 9223372036854775808 := by decide
    omega
  · have : p2 (64 - 1) = 9223372036854775808 := by decide
    omega
  · rw [List.take_append_of_le_length (by rw [dig_len]; omega), sintF_is _ (okB_take (dig_ok _ _) _) (by rw [List.length_take, dig_len]; omega) 64 (by decide) (by decide), refS_open e s 0 64 (by omega)]
    simp
end Go.Proofs.Ytjhdnlgbboboiaa.Leb
