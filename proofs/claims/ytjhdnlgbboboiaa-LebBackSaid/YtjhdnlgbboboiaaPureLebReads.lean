/- Of any bytes, at any place, of any bits, a number is read as the document says, or refused: the plain law. -/
import Derived.Test.YtjhdnlgbboboiaaQ15x7
import Derived.Test.YtjhdnlgbboboiaaLebMath
namespace Go.Proofs.Ytjhdnlgbboboiaa.Pure
open Go.RowKit Go.Proofs.Ytjhdnlgbboboiaa.Q15 Go.Proofs.YtjhdnlgbboboiaaW.PrintWords Go.Proofs.YtjhdnlgbboboiaaW.PrintLast Go.Proofs.Ytjhdnlgbboboiaa.Leb
set_option linter.unusedVariables false

theorem w64 {n : Int} (h0 : -9223372036854775808 ≤ n) (h1 : n < 9223372036854775808) : wrap64 n = n := by unfold wrap64; omega
theorem wu {n : Int} (h0 : 0 ≤ n) (h1 : n < 18446744073709551616) : IntKind.u64.wrap n = n := by rw [IntKind.wrap_u64]; omega
theorem two_f (k : Nat) (b : Int) (h0 : 1 ≤ b) (h1 : b < 7) : trunnionref02_Two.f (k + 8) b = some (two7 b) := by
  have h : b = 1 ∨ b = 2 ∨ b = 3 ∨ b = 4 ∨ b = 5 ∨ b = 6 := by omega
  rcases h with rfl | rfl | rfl | rfl | rfl | rfl <;> simp [trunnionref02_Two.f, trunnionref02_Two.l0, IntKind.wrap_u64, wrap64, two7]
theorem rd_drop (l : List Int) (i : Nat) (h : i < l.length) : l.drop i = rd l (i : Int) :: l.drop (i + 1) := drop_cons l i h
theorem rd_ok {l : List Int} (hok : okB l) (i : Nat) (h : i < l.length) : 0 ≤ rd l (i : Int) ∧ rd l (i : Int) < 256 := by
  have := hok l[i] (List.getElem_mem h)
  simpa [rd, h] using this
theorem refU_f (l : List Int) (hok : okB l) (hl : l.length ≤ 6000) (d : Nat) : ∀ (k i : Nat) (b : Int), l.length - i = d → d + 9 ≤ k → 1 ≤ b → b ≤ 64 →
    trunnionref15_Uint.f k l (i : Int) b = some (refU (l.drop i) (i : Int) b) ∧ ((refU (l.drop i) (i : Int) b).2.2 = 0 → 0 ≤ (refU (l.drop i) (i : Int) b).1 ∧ (refU (l.drop i) (i : Int) b).1 < 18446744073709551616) := by
  induction d with
  | zero =>
    intro k i b hd hk b0 b1
    obtain ⟨k, rfl⟩ : ∃ m, k = m + 1 := ⟨k - 1, by omega⟩
    rw [List.drop_eq_nil_of_le (by omega)]
    simp only [trunnionref15_Uint.f, refU]
    rw [if_pos (by omega)]
    exact ⟨rfl, by simp⟩
  | succ d ih =>
    intro k i b hd hk b0 b1
    obtain ⟨k, rfl⟩ : ∃ m, k = m + 1 := ⟨k - 1, by omega⟩
    have hi : i < l.length := by omega
    have hx := rd_ok hok i hi
    rw [rd_drop l i hi]
    simp only [trunnionref15_Uint.f, refU]
    rw [if_neg (by omega), if_pos (by omega), if_pos (by omega), wu hx.1 (by omega), w64 (by omega) (by omega)]
    by_cases c1 : rd l (i : Int) < 128
    · rw [if_pos c1, if_pos c1]
      by_cases c2 : b < 7
      · rw [if_pos c2]
        obtain ⟨k', rfl⟩ : ∃ m, k = m + 8 := ⟨k - 8, by omega⟩
        rw [two_f k' b b0 c2]
        simp only [Option.bind_some]
        by_cases c3 : two7 b ≤ rd l (i : Int)
        · rw [if_pos c3, if_pos ⟨c2, c3⟩]
          exact ⟨rfl, by simp⟩
        · rw [if_neg (by omega), if_neg (by omega)]
          exact ⟨rfl, fun _ => ⟨hx.1, by simp only; omega⟩⟩
      · rw [if_neg c2, if_neg (by omega)]
        exact ⟨rfl, fun _ => ⟨hx.1, by simp only; omega⟩⟩
    · rw [if_neg c1, if_neg c1]
      by_cases c2 : b ≤ 7
      · rw [if_pos c2, if_pos c2]
        exact ⟨rfl, by simp⟩
      · rw [if_neg c2, if_neg c2, w64 (by omega) (by omega)]
        have h1 := ih k (i + 1) (b - 7) (by omega) (by omega) (by omega) (by omega)
        rw [show ((i + 1 : Nat) : Int) = (i : Int) + 1 from by omega] at h1
        rw [h1.1]
        have hU := scanU (l.drop (i + 1)) ((i : Int) + 1) 0 1 (b - 7) (fun y hy => hok y (List.mem_of_mem_drop hy)) (by omega) (P7_pos 1) (by omega) (by omega) (by omega)
        have hlt := hU.2
        clear hU
        generalize refU (l.drop (i + 1)) ((i : Int) + 1) (b - 7) = r at *
        simp only [Option.bind_some]
        by_cases c3 : r.2.2 = 0
        · have h2 := hlt c3
          have e : P7 1 = 128 := by decide
          rw [e] at h2
          rw [if_pos c3, if_pos c3, wu (n := rd l (i : Int) - 128) (by omega) (by omega), wu (n := 128 * r.1) (by omega) (by omega)]
          have : rd l (i : Int) - 128 + 128 * r.1 < 18446744073709551616 := by omega
          rw [wu (by omega) this]
          exact ⟨rfl, fun _ => ⟨by simp only; omega, this⟩⟩
        · rw [if_neg c3, if_neg c3]
          exact ⟨rfl, fun h => absurd h c3⟩
theorem sint_j1 (k : Nat) (l : List Int) (i : Nat) (b x : Int) (hi : i < l.length) (hl : l.length ≤ 6000) (b0 : 1 ≤ b) (b1 : b ≤ 64) (x0 : 0 ≤ x) (x1 : x < 256)
    (hr : 7 < b → ¬ x < 128 → trunnionref15_Sint.f (k + 8) l ((i : Int) + 1) (b - 7) = some (((refS (l.drop (i + 1)) ((i : Int) + 1) (b - 7)).1 % 18446744073709551616, (refS (l.drop (i + 1)) ((i : Int) + 1) (b - 7)).2.1, (refS (l.drop (i + 1)) ((i : Int) + 1) (b - 7)).2.2))) :
    trunnionref15_Sint.j1 (k + 9) l (i : Int) b (if 64 ≤ x ∧ x < 128 then x - 128 else x) = some ((refS (x :: l.drop (i + 1)) (i : Int) b).1 % 18446744073709551616, (refS (x :: l.drop (i + 1)) (i : Int) b).2.1, (refS (x :: l.drop (i + 1)) (i : Int) b).2.2) := by
  obtain ⟨v, hv⟩ : ∃ v, v = (if 64 ≤ x ∧ x < 128 then x - 128 else x) := ⟨_, rfl⟩
  rw [← hv]
  have hv1 : v < 128 ↔ x < 128 := by rw [hv]; split <;> omega
  simp only [trunnionref15_Sint.j1, refS]
  by_cases c1 : x < 128
  · rw [if_pos (hv1.2 c1), if_pos c1]
    have hvx : v = if 64 ≤ x then x - 128 else x := by rw [hv]; split <;> split <;> omega
    have hw : wrap64 ((i : Int) + 1) = (i : Int) + 1 := w64 (by omega) (by omega)
    by_cases c2 : b < 7
    · rw [if_pos c2]
      have hb : b = 1 ∨ b = 2 ∨ b = 3 ∨ b = 4 ∨ b = 5 ∨ b = 6 := by omega
      have h2 : trunnionref02_Two.f (k + 8) (wrap64 (b - 1)) = some (two7 b / 2) := by
        rcases hb with rfl | rfl | rfl | rfl | rfl | rfl <;> simp [trunnionref02_Two.f, trunnionref02_Two.l0, IntKind.wrap_u64, wrap64, two7]
      have hw2 : wrap64 (two7 b / 2) = two7 b / 2 := by
        rcases hb with rfl | rfl | rfl | rfl | rfl | rfl <;> simp [wrap64, two7]
      have hw3 : wrap64 (-(two7 b / 2)) = -(two7 b / 2) := by
        rcases hb with rfl | rfl | rfl | rfl | rfl | rfl <;> simp [wrap64, two7]
      have hh : 1 ≤ two7 b / 2 ∧ two7 b / 2 ≤ 32 := by have := two7_range b b0 c2; omega
      rw [h2]
      simp only [Option.bind_some]
      rw [hw2, hw3, hw]
      have hLS : LS x b = if x < 64 then decide (x < two7 b / 2) else decide (128 - two7 b / 2 ≤ x) := if_neg (by omega)
      rw [hLS]
      by_cases c3 : x < 64
      · have hxx : (if 64 ≤ x then x - 128 else x) = x := if_neg (by omega)
        rw [hxx] at hvx ⊢
        rw [hvx, if_pos c3]
        by_cases c4 : x < two7 b / 2
        · rw [if_neg (by omega), if_neg (by omega), if_pos (by simpa using c4)]
          rw [IntKind.wrap_u64]
        · rw [if_pos (by omega), if_neg (by simpa using c4)]
          simp
      · have hxx : (if 64 ≤ x then x - 128 else x) = x - 128 := if_pos (by omega)
        rw [hxx] at hvx ⊢
        rw [hvx, if_neg c3]
        by_cases c4 : 128 - two7 b / 2 ≤ x
        · rw [if_neg (by omega), if_neg (by omega), if_pos (by simpa using c4)]
          rw [IntKind.wrap_u64]
        · rw [if_neg (by omega), if_pos (by omega), if_neg (by simpa using c4)]
          simp
    · rw [if_neg c2]
      have hLS : LS x b = true := if_pos (by omega)
      rw [hLS, hw, hvx]
      rw [if_neg (by split <;> omega), if_neg (by split <;> omega), if_pos rfl, IntKind.wrap_u64]
  · rw [if_neg (fun h => c1 (hv1.1 h)), if_neg c1]
    have hvx : v = x := by rw [hv]; exact if_neg (by omega)
    by_cases c2 : b ≤ 7
    · rw [if_pos c2, if_pos c2]
      simp
    · rw [if_neg c2, if_neg c2, w64 (n := (i : Int) + 1) (by omega) (by omega), w64 (n := b - 7) (by omega) (by omega), hr (by omega) c1]
      generalize refS (l.drop (i + 1)) ((i : Int) + 1) (b - 7) = r at *
      simp only [Option.bind_some]
      by_cases c3 : r.2.2 = 0
      · rw [if_pos c3, if_pos c3, hvx, w64 (n := x - 128) (by omega) (by omega)]
        simp only [IntKind.wrap_u64]
        congr 2
        omega
      · rw [if_neg c3, if_neg c3]
        simp
theorem refS_f (l : List Int) (hok : okB l) (hl : l.length ≤ 6000) (d : Nat) : ∀ (k i : Nat) (b : Int), l.length - i = d → 3 * d + 12 ≤ k → 1 ≤ b → b ≤ 64 →
    trunnionref15_Sint.f k l (i : Int) b = some ((refS (l.drop i) (i : Int) b).1 % 18446744073709551616, (refS (l.drop i) (i : Int) b).2.1, (refS (l.drop i) (i : Int) b).2.2) := by
  induction d with
  | zero =>
    intro k i b hd hk b0 b1
    obtain ⟨k, rfl⟩ : ∃ m, k = m + 1 := ⟨k - 1, by omega⟩
    rw [List.drop_eq_nil_of_le (by omega)]
    simp only [trunnionref15_Sint.f, refS]
    rw [if_pos (by omega)]
    rfl
  | succ d ih =>
    intro k i b hd hk b0 b1
    obtain ⟨k, rfl⟩ : ∃ m, k = m + 11 := ⟨k - 11, by omega⟩
    have hi : i < l.length := by omega
    have hx := rd_ok hok i hi
    rw [rd_drop l i hi]
    have hrec : ∀ k', 3 * d + 12 ≤ k' → 7 < b → trunnionref15_Sint.f k' l ((i : Int) + 1) (b - 7) = some ((refS (l.drop (i + 1)) ((i : Int) + 1) (b - 7)).1 % 18446744073709551616, (refS (l.drop (i + 1)) ((i : Int) + 1) (b - 7)).2.1, (refS (l.drop (i + 1)) ((i : Int) + 1) (b - 7)).2.2) := by
      intro k' hk' hb
      have h1 := ih k' (i + 1) (b - 7) (by omega) hk' (by omega) (by omega)
      rw [show ((i + 1 : Nat) : Int) = (i : Int) + 1 from by omega] at h1
      exact h1
    show (if (i : Int) ≥ (l.length : Int) then _ else _) = _
    rw [if_neg (by omega), if_pos (by omega), if_pos (by omega), w64 (by omega) (by omega)]
    have hj1 := sint_j1 k l i b (rd l (i : Int)) hi hl b0 b1 hx.1 hx.2 (fun hb _ => hrec _ (by omega) hb)
    by_cases c1 : rd l (i : Int) ≥ 64
    · rw [if_pos c1]
      simp only [trunnionref15_Sint.j0]
      by_cases c2 : rd l (i : Int) < 128
      · rw [if_pos (by simpa using c2), w64 (by omega) (by omega)]
        rw [if_pos ⟨c1, c2⟩] at hj1
        exact hj1
      · rw [if_neg (by simpa using c2)]
        rw [if_neg (by omega)] at hj1
        exact hj1
    · rw [if_neg c1]
      simp only [trunnionref15_Sint.j0]
      rw [if_neg (by simp)]
      rw [if_neg (by omega)] at hj1
      exact hj1
theorem okB_of_wf {l : List Int} (h : ∀ x ∈ l, (Lit.int .u8 x).wf = true) : okB l := by
  intro x hx
  have := h x hx
  simp only [Lit.wf, Bool.and_eq_true, decide_eq_true_eq] at this
  have h1 : IntKind.u8.min = 0 := rfl
  have h2 : IntKind.u8.max = 255 := rfl
  rw [h1, h2] at this
  omega
theorem scanF_in (L : Int → Int → Bool) (l : List Int) (a b : Int) (h : ¬ (b < 1 ∨ b > 64 ∨ a < 0 ∨ a > l.length)) : scanF L l a b = scanL L (l.drop a.toNat) a 0 0 b := if_neg h
theorem uint_is (l : List Int) (i : Nat) (b : Int) (hok : okB l) (b0 : 1 ≤ b) (b1 : b ≤ 64) : uintR (scanL LU (l.drop i) (i : Int) 0 0 b) = refU (l.drop i) (i : Int) b := by
  have := (scanU (l.drop i) (i : Int) 0 0 b (fun y hy => hok y (List.mem_of_mem_drop hy)) (by omega) (P7_pos 0) (by omega) b0 (by omega)).1
  have e : P7 0 = 1 := by decide
  simp only [e] at this
  rw [show (7 * ((0 : Nat) : Int)) = 0 from rfl] at this
  rw [this]
  have hz : ∀ (l : List Int) (a b : Int), (refU l a b).2.2 ≠ 0 → refU l a b = (0, 0, (refU l a b).2.2) := by
    intro l a b h
    cases l with
    | nil => rfl
    | cons x xs =>
      unfold refU at h ⊢
      split
      · split
        · rfl
        · simp_all
      · split
        · rfl
        · dsimp only
          split
          · simp_all
          · rfl
  split
  · rename_i h
    rw [Int.one_mul, Int.zero_add, ← h]
  · rename_i h
    exact (hz _ _ _ h).symm
theorem sint_is (l : List Int) (i : Nat) (b : Int) (hok : okB l) (b0 : 1 ≤ b) (b1 : b ≤ 64) : sintR (scanL LS (l.drop i) (i : Int) 0 0 b) = ((refS (l.drop i) (i : Int) b).1 % 18446744073709551616, (refS (l.drop i) (i : Int) b).2.1, (refS (l.drop i) (i : Int) b).2.2) := by
  have := scanS (l.drop i) (i : Int) 0 0 b (fun y hy => hok y (List.mem_of_mem_drop hy)) (by omega) (P7_pos 0) (by omega) b0 (by omega)
  have e : P7 0 = 1 := by decide
  simp only [e] at this
  rw [show (7 * ((0 : Nat) : Int)) = 0 from rfl] at this
  rw [this]
  have hz : ∀ (l : List Int) (a b : Int), (refS l a b).2.2 ≠ 0 → refS l a b = (0, 0, (refS l a b).2.2) := by
    intro l a b h
    cases l with
    | nil => rfl
    | cons x xs =>
      unfold refS at h ⊢
      split
      · split
        · simp_all
        · rfl
      · split
        · rfl
        · dsimp only
          split
          · simp_all
          · rfl
  split
  · simp [*]
  · rename_i h
    rw [hz _ _ _ h]
    simp
theorem LebReads : trunnionlaw15_LebReads.Pure := by
  intro l a b hm hl hw ha hb
  have hok := okB_of_wf hw
  by_cases c0 : (l.length : Int) > 1000
  · refine ⟨1, ?_⟩
    unfold trunnionlaw15_LebReads.f trunnionlaw15_awake.f
    simp only [Option.bind_some, if_true]
    rw [if_pos c0]
  · have hU : leb_Uint.f l a b = some (uintR (scanF LU l a b)) := by
      unfold leb_Uint.f uintF
      rw [if_pos (okBb_of hok), if_pos (by omega)]
    have hS : leb_Sint.f l a b = some (sintR (scanF LS l a b)) := by
      unfold leb_Sint.f sintF
      rw [if_pos (okBb_of hok), if_pos (by omega)]
    by_cases c : b < 1 ∨ b > 64 ∨ a < 0 ∨ a > l.length
    · have e1 : ∀ L, scanF L l a b = (0, 0, 0, 0, 2) := fun L => if_pos c
      rw [e1] at hU hS
      refine ⟨1, ?_⟩
      unfold trunnionlaw15_LebReads.f trunnionlaw15_awake.f
      simp only [Option.bind_some, if_true]
      rw [if_neg c0, hU, hS]
      simp only [Option.bind_some, uintR, sintR]
      have hj : trunnionlaw15_LebReads.j0 1 l a b 0 0 2 0 0 2 true = some true := by simp [trunnionlaw15_LebReads.j0]
      simp only [show ((2 : Int) = 0) = False from by simp, if_false]
      by_cases d1 : b < 1
      · rw [if_pos d1]; exact hj
      · rw [if_neg d1]
        by_cases d2 : b > 64
        · rw [if_pos d2]; exact hj
        · rw [if_neg d2]
          by_cases d3 : a < 0
          · rw [if_pos d3]; exact hj
          · rw [if_neg d3]
            have : decide (a > (l.length : Int)) = true := decide_eq_true (by omega)
            rw [this]
            exact hj
    · obtain ⟨i, rfl⟩ := Int.eq_ofNat_of_zero_le (show 0 ≤ a by omega)
      rw [scanF_in _ _ _ _ c, Int.toNat_natCast, uint_is l i b hok (by omega) (by omega)] at hU
      rw [scanF_in _ _ _ _ c, Int.toNat_natCast, sint_is l i b hok (by omega) (by omega)] at hS
      refine ⟨3 * l.length + 20, ?_⟩
      unfold trunnionlaw15_LebReads.f trunnionlaw15_awake.f
      simp only [Option.bind_some, if_true]
      rw [if_neg c0, hU, hS]
      simp only [Option.bind_some]
      rw [if_neg (by omega), if_neg (by omega), if_neg (by omega)]
      have : decide ((i : Int) > (l.length : Int)) = false := decide_eq_false (by omega)
      rw [this]
      simp only [trunnionlaw15_LebReads.j0]
      rw [if_neg (by simp), (refU_f l hok (by omega) _ (3 * l.length + 19) i b rfl (by omega) (by omega) (by omega)).1, refS_f l hok (by omega) _ (3 * l.length + 19) i b rfl (by omega) (by omega) (by omega)]
      simp
end Go.Proofs.Ytjhdnlgbboboiaa.Pure
