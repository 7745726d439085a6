/- Of any bytes, at any place, of any bits, a number is read as the document says, or refused: the plain law. -/
import Derived.Test.YtjhdnlgbboboiaaPScanReadsx2
import Derived.Test.YtjhdnlgbboboiaaMLeb
import Derived.Test.YtjhdnlgbboboiaaPScanReadsx4
import Derived.Test.YtjhdnlgbboboiaaMUtf
namespace Go.Proofs.Ytjhdnlgbboboiaa.ScanL
open Go.RowKit Go.Proofs.Ytjhdnlgbboboiaa.PScanReads Go.Proofs.YtjhdnlgbboboiaaW.PrintWords Go.Proofs.YtjhdnlgbboboiaaW.PrintLast Go.Proofs.Ytjhdnlgbboboiaa.Leb
set_option linter.unusedVariables false

theorem w64 {n : Int} (h0 : -9223372036854775808 ≤ n) (h1 : n < 9223372036854775808) : wrap64 n = n := by unfold wrap64; omega
theorem wu {n : Int} (h0 : 0 ≤ n) (h1 : n < 18446744073709551616) : IntKind.u64.wrap n = n := by rw [IntKind.wrap_u64]; omega
theorem two_f (k : Nat) (b : Int) (h0 : 1 ≤ b) (h1 : b < 7) : trunnionref02_Two.f (k + 8) b = some (two7 b) := by
  have h : b = 1 ∨ b = 2 ∨ b = 3 ∨ b = 4 ∨ b = 5 ∨ b = 6 := by omega
  rcases h with rfl | rfl | rfl | rfl | rfl | rfl <;> simp [trunnionref02_Two.f, trunnionref02_Two.l0, IntKind.wrap_u64, wrap64, two7]
theorem rd_drop (l : List Int) (i : Nat) (h : i < l.length) : l.drop i = rd l (i : Int) :: l.drop (i + 1) := drop_cons l i h
theorem rd_ok {l : List Int} (hok : okB l) (i : Nat) (h : i < l.length) : 0 ≤ rd l (i : Int) ∧ rd l (i : Int) < 256 := by
  have := hok l[i] (List.getElem_mem h)
  simpa [rd, h] using this
theorem refU_f (l : List Int) (hok : okB l) (hl : l.length ≤ 6000) (d : Nat) : ∀ (k i : Nat) (b : Int), l.length - i = d → d + 9 ≤ k → 1 ≤ b → b ≤ 64 →
    trunnionref15_Uint.f k l (i : Int) b = some (refU (l.drop i) (i : Int) b) ∧ ((refU (l.drop i) (i : Int) b).2.2 = 0 → 0 ≤ (refU (l.drop i) (i : Int) b).1 ∧ (refU (l.drop i) (i : Int) b).1 < 18446744073709551616) := by
  induction d with
  | zero =>
    intro k i b hd hk b0 b1
    obtain ⟨k, rfl⟩ : ∃ m, k = m + 1 := ⟨k - 1, by omega⟩
    rw [List.drop_eq_nil_of_le (by omega)]
    simp only [trunnionref15_Uint.f, refU]
    rw [if_pos (by omega)]
    exact ⟨rfl, by simp⟩
  | succ d ih =>
    intro k i b hd hk b0 b1
    obtain ⟨k, rfl⟩ : ∃ m, k = m + 1 := ⟨k - 1, by omega⟩
    have hi : i < l.length := by omega
    have hx := rd_ok hok i hi
    rw [rd_drop l i hi]
    simp only [trunnionref15_Uint.f, refU]
    rw [if_neg (by omega), if_pos (by omega), if_pos (by omega), wu hx.1 (by omega), w64 (by omega) (by omega)]
    by_cases c1 : rd l (i : Int) < 128
    · rw [if_pos c1, if_pos c1]
      by_cases c2 : b < 7
      · rw [if_pos c2]
        obtain ⟨k', rfl⟩ : ∃ m, k = m + 8 := ⟨k - 8, by omega⟩
        rw [two_f k' b b0 c2]
        simp only [Option.bind_some]
        by_cases c3 : two7 b ≤ rd l (i : Int)
        · rw [if_pos c3, if_pos ⟨c2, c3⟩]
          exact ⟨rfl, by simp⟩
        · rw [if_neg (by omega), if_neg (by omega)]
          exact ⟨rfl, fun _ => ⟨hx.1, by simp only; omega⟩⟩
      · rw [if_neg c2, if_neg (by omega)]
        exact ⟨rfl, fun _ => ⟨hx.1, by simp only; omega⟩⟩
    · rw [if_neg c1, if_neg c1]
      by_cases c2 : b ≤ 7
      · rw [if_pos c2, if_pos c2]
        exact ⟨rfl, by simp⟩
      · rw [if_neg c2, if_neg c2, w64 (by omega) (by omega)]
        have h1 := ih k (i + 1) (b - 7) (by omega) (by omega) (by omega) (by omega)
        rw [show ((i + 1 : Nat) : Int) = (i : Int) + 1 from by omega] at h1
        rw [h1.1]
        have hU := scanU (l.drop (i + 1)) ((i : Int) + 1) 0 1 (b - 7) (fun y hy => hok y (List.mem_of_mem_drop hy)) (by omega) (P7_pos 1) (by omega) (by omega) (by omega)
        have hlt := hU.2
        clear hU
        generalize refU (l.drop (i + 1)) ((i : Int) + 1) (b - 7) = r at *
        simp only [Option.bind_some]
        by_cases c3 : r.2.2 = 0
        · have h2 := hlt c3
          have e : P7 1 = 128 := by decide
          rw [e] at h2
          rw [if_pos c3, if_pos c3, wu (n := rd l (i : Int) - 128) (by omega) (by omega), wu (n := 128 * r.1) (by omega) (by omega)]
          have : rd l (i : Int) - 128 + 128 * r.1 < 18446744073709551616 := by omega
          rw [wu (by omega) this]
          exact ⟨rfl, fun _ => ⟨by simp only; omega, this⟩⟩
        · rw [if_neg c3, if_neg c3]
          exact ⟨rfl, fun h => absurd h c3⟩
theorem sint_j1 (k : Nat) (l : List Int) (i : Nat) (b x : Int) (hi : i < l.length) (hl : l.length ≤ 6000) (b0 : 1 ≤ b) (b1 : b ≤ 64) (x0 : 0 ≤ x) (x1 : x < 256)
    (hr : 7 < b → ¬ x < 128 → trunnionref15_Sint.f (k + 8) l ((i : Int) + 1) (b - 7) = some (((refS (l.drop (i + 1)) ((i : Int) + 1) (b - 7)).1 % 18446744073709551616, (refS (l.drop (i + 1)) ((i : Int) + 1) (b - 7)).2.1, (refS (l.drop (i + 1)) ((i : Int) + 1) (b - 7)).2.2))) :
    trunnionref15_Sint.j1 (k + 9) l (i : Int) b (if 64 ≤ x ∧ x < 128 then x - 128 else x) = some ((refS (x :: l.drop (i + 1)) (i : Int) b).1 % 18446744073709551616, (refS (x :: l.drop (i + 1)) (i : Int) b).2.1, (refS (x :: l.drop (i + 1)) (i : Int) b).2.2) := by
  obtain ⟨v, hv⟩ : ∃ v, v = (if 64 ≤ x ∧ x < 128 then x - 128 else x) := ⟨_, rfl⟩
  rw [← hv]
  have hv1 : v < 128 ↔ x < 128 := by rw [hv]; split <;> omega
  simp only [trunnionref15_Sint.j1, refS]
  by_cases c1 : x < 128
  · rw [if_pos (hv1.2 c1), if_pos c1]
    have hvx : v = if 64 ≤ x then x - 128 else x := by rw [hv]; split <;> split <;> omega
    have hw : wrap64 ((i : Int) + 1) = (i : Int) + 1 := w64 (by omega) (by omega)
    by_cases c2 : b < 7
    · rw [if_pos c2]
      have hb : b = 1 ∨ b = 2 ∨ b = 3 ∨ b = 4 ∨ b = 5 ∨ b = 6 := by omega
      have h2 : trunnionref02_Two.f (k + 8) (wrap64 (b - 1)) = some (two7 b / 2) := by
        rcases hb with rfl | rfl | rfl | rfl | rfl | rfl <;> simp [trunnionref02_Two.f, trunnionref02_Two.l0, IntKind.wrap_u64, wrap64, two7]
      have hw2 : wrap64 (two7 b / 2) = two7 b / 2 := by
        rcases hb with rfl | rfl | rfl | rfl | rfl | rfl <;> simp [wrap64, two7]
      have hw3 : wrap64 (-(two7 b / 2)) = -(two7 b / 2) := by
        rcases hb with rfl | rfl | rfl | rfl | rfl | rfl <;> simp [wrap64, two7]
      have hh : 1 ≤ two7 b / 2 ∧ two7 b / 2 ≤ 32 := by have := two7_range b b0 c2; omega
      rw [h2]
      simp only [Option.bind_some]
      rw [hw2, hw3, hw]
      have hLS : LS x b = if x < 64 then decide (x < two7 b / 2) else decide (128 - two7 b / 2 ≤ x) := if_neg (by omega)
      rw [hLS]
      by_cases c3 : x < 64
      · have hxx : (if 64 ≤ x then x - 128 else x) = x := if_neg (by omega)
        rw [hxx] at hvx ⊢
        rw [hvx, if_pos c3]
        by_cases c4 : x < two7 b / 2
        · rw [if_neg (by omega), if_neg (by omega), if_pos (by simpa using c4)]
          rw [IntKind.wrap_u64]
        · rw [if_pos (by omega), if_neg (by simpa using c4)]
          simp
      · have hxx : (if 64 ≤ x then x - 128 else x) = x - 128 := if_pos (by omega)
        rw [hxx] at hvx ⊢
        rw [hvx, if_neg c3]
        by_cases c4 : 128 - two7 b / 2 ≤ x
        · rw [if_neg (by omega), if_neg (by omega), if_pos (by simpa using c4)]
          rw [IntKind.wrap_u64]
        · rw [if_neg (by omega), if_pos (by omega), if_neg (by simpa using c4)]
          simp
    · rw [if_neg c2]
      have hLS : LS x b = true := if_pos (by omega)
      rw [hLS, hw, hvx]
      rw [if_neg (by split <;> omega), if_neg (by split <;> omega), if_pos rfl, IntKind.wrap_u64]
  · rw [if_neg (fun h => c1 (hv1.1 h)), if_neg c1]
    have hvx : v = x := by rw [hv]; exact if_neg (by omega)
    by_cases c2 : b ≤ 7
    · rw [if_pos c2, if_pos c2]
      simp
    · rw [if_neg c2, if_neg c2, w64 (n := (i : Int) + 1) (by omega) (by omega), w64 (n := b - 7) (by omega) (by omega), hr (by omega) c1]
      generalize refS (l.drop (i + 1)) ((i : Int) + 1) (b - 7) = r at *
      simp only [Option.bind_some]
      by_cases c3 : r.2.2 = 0
      · rw [if_pos c3, if_pos c3, hvx, w64 (n := x - 128) (by omega) (by omega)]
        simp only [IntKind.wrap_u64]
        congr 2
        omega
      · rw [if_neg c3, if_neg c3]
        simp
theorem refS_f (l : List Int) (hok : okB l) (hl : l.length ≤ 6000) (d : Nat) : ∀ (k i : Nat) (b : Int), l.length - i = d → 3 * d + 12 ≤ k → 1 ≤ b → b ≤ 64 →
    trunnionref15_Sint.f k l (i : Int) b = some ((refS (l.drop i) (i : Int) b).1 % 18446744073709551616, (refS (l.drop i) (i : Int) b).2.1, (refS (l.drop i) (i : Int) b).2.2) := by
  induction d with
  | zero =>
    intro k i b hd hk b0 b1
    obtain ⟨k, rfl⟩ : ∃ m, k = m + 1 := ⟨k - 1, by omega⟩
    rw [List.drop_eq_nil_of_le (by omega)]
    simp only [trunnionref15_Sint.f, refS]
    rw [if_pos (by omega)]
    rfl
  | succ d ih =>
    intro k i b hd hk b0 b1
    obtain ⟨k, rfl⟩ : ∃ m, k = m + 11 := ⟨k - 11, by omega⟩
    have hi : i < l.length := by omega
    have hx := rd_ok hok i hi
    rw [rd_drop l i hi]
    have hrec : ∀ k', 3 * d + 12 ≤ k' → 7 < b → trunnionref15_Sint.f k' l ((i : Int) + 1) (b - 7) = some ((refS (l.drop (i + 1)) ((i : Int) + 1) (b - 7)).1 % 18446744073709551616, (refS (l.drop (i + 1)) ((i : Int) + 1) (b - 7)).2.1, (refS (l.drop (i + 1)) ((i : Int) + 1) (b - 7)).2.2) := by
      intro k' hk' hb
      have h1 := ih k' (i + 1) (b - 7) (by omega) hk' (by omega) (by omega)
      rw [show ((i + 1 : Nat) : Int) = (i : Int) + 1 from by omega] at h1
      exact h1
    show (if (i : Int) ≥ (l.length : Int) then _ else _) = _
    rw [if_neg (by omega), if_pos (by omega), if_pos (by omega), w64 (by omega) (by omega)]
    have hj1 := sint_j1 k l i b (rd l (i : Int)) hi hl b0 b1 hx.1 hx.2 (fun hb _ => hrec _ (by omega) hb)
    by_cases c1 : rd l (i : Int) ≥ 64
    · rw [if_pos c1]
      simp only [trunnionref15_Sint.j0]
      by_cases c2 : rd l (i : Int) < 128
      · rw [if_pos (by simpa using c2), w64 (by omega) (by omega)]
        rw [if_pos ⟨c1, c2⟩] at hj1
        exact hj1
      · rw [if_neg (by simpa using c2)]
        rw [if_neg (by omega)] at hj1
        exact hj1
    · rw [if_neg c1]
      simp only [trunnionref15_Sint.j0]
      rw [if_neg (by simp)]
      rw [if_neg (by omega)] at hj1
      exact hj1
theorem okB_of_wf {l : List Int} (h : ∀ x ∈ l, (Lit.int .u8 x).wf = true) : okB l := by
  intro x hx
  have := h x hx
  simp only [Lit.wf, Bool.and_eq_true, decide_eq_true_eq] at this
  have h1 : IntKind.u8.min = 0 := rfl
  have h2 : IntKind.u8.max = 255 := rfl
  rw [h1, h2] at this
  omega
theorem scanF_in (L : Int → Int → Bool) (l : List Int) (a b : Int) (h : ¬ (b < 1 ∨ b > 64 ∨ a < 0 ∨ a > l.length)) : scanF L l a b = scanL L (l.drop a.toNat) a 0 0 b := if_neg h
theorem uint_is (l : List Int) (i : Nat) (b : Int) (hok : okB l) (b0 : 1 ≤ b) (b1 : b ≤ 64) : uintR (scanL LU (l.drop i) (i : Int) 0 0 b) = refU (l.drop i) (i : Int) b := by
  have := (scanU (l.drop i) (i : Int) 0 0 b (fun y hy => hok y (List.mem_of_mem_drop hy)) (by omega) (P7_pos 0) (by omega) b0 (by omega)).1
  have e : P7 0 = 1 := by decide
  simp only [e] at this
  rw [show (7 * ((0 : Nat) : Int)) = 0 from rfl] at this
  rw [this]
  have hz : ∀ (l : List Int) (a b : Int), (refU l a b).2.2 ≠ 0 → refU l a b = (0, 0, (refU l a b).2.2) := by
    intro l a b h
    cases l with
    | nil => rfl
    | cons x xs =>
      unfold refU at h ⊢
      split
      · split
        · rfl
        · simp_all
      · split
        · rfl
        · dsimp only
          split
          · simp_all
          · rfl
  split
  · rename_i h
    rw [Int.one_mul, Int.zero_add, ← h]
  · rename_i h
    exact (hz _ _ _ h).symm
theorem sint_is (l : List Int) (i : Nat) (b : Int) (hok : okB l) (b0 : 1 ≤ b) (b1 : b ≤ 64) : sintR (scanL LS (l.drop i) (i : Int) 0 0 b) = ((refS (l.drop i) (i : Int) b).1 % 18446744073709551616, (refS (l.drop i) (i : Int) b).2.1, (refS (l.drop i) (i : Int) b).2.2) := by
  have := scanS (l.drop i) (i : Int) 0 0 b (fun y hy => hok y (List.mem_of_mem_drop hy)) (by omega) (P7_pos 0) (by omega) b0 (by omega)
  have e : P7 0 = 1 := by decide
  simp only [e] at this
  rw [show (7 * ((0 : Nat) : Int)) = 0 from rfl] at this
  rw [this]
  have hz : ∀ (l : List Int) (a b : Int), (refS l a b).2.2 ≠ 0 → refS l a b = (0, 0, (refS l a b).2.2) := by
    intro l a b h
    cases l with
    | nil => rfl
    | cons x xs =>
      unfold refS at h ⊢
      split
      · split
        · simp_all
        · rfl
      · split
        · rfl
        · dsimp only
          split
          · simp_all
          · rfl
  split
  · simp [*]
  · rename_i h
    rw [hz _ _ _ h]
    simp
end Go.Proofs.Ytjhdnlgbboboiaa.ScanL

/- The plain law of the document's characters: what its search over one to four bytes finds is the character at the front. -/
namespace Go.Proofs.Ytjhdnlgbboboiaa.ScanU
open Go.RowKit Go.Proofs.YtjhdnlgbboboiaaW.PrintWords Go.Proofs.Ytjhdnlgbboboiaa.Leb Go.Proofs.Ytjhdnlgbboboiaa.PScanReads Go.Proofs.Ytjhdnlgbboboiaa.Utf
set_option linter.unusedVariables false

theorem w64 {n : Int} (h0 : -9223372036854775808 ≤ n) (h1 : n < 9223372036854775808) : wrap64 n = n := by unfold wrap64; omega
/-- A character's bytes, as the document says; none: it is none. -/
def encL (c : Int) : List Int :=
  if c < 0 ∨ c > 1114111 ∨ 55296 ≤ c ∧ c ≤ 57343 then []
  else if c < 128 then [c]
  else if c < 2048 then [192 + c / 64, 128 + c % 64]
  else if c < 65536 then [224 + c / 4096, 128 + c / 64 % 64, 128 + c % 64]
  else [240 + c / 262144, 128 + c / 4096 % 64, 128 + c / 64 % 64, 128 + c % 64]
theorem put_ev (c : Int) : Ev (fun k => trunnionref16_Put.f k c) (encL c) := by
  have hbad : (c < 0 ∨ c > 1114111 ∨ 55296 ≤ c ∧ c ≤ 57343) → ∀ k, trunnionref16_Put.j0 (k + 1) c true = some (encL c) := by
    intro h k
    simp only [trunnionref16_Put.j0, if_true]
    unfold encL
    rw [if_pos h]
  have hgood : ¬ (c < 0 ∨ c > 1114111 ∨ 55296 ≤ c ∧ c ≤ 57343) → ∀ k, trunnionref16_Put.j0 (k + 1) c false = some (encL c) := by
    intro h k
    have t0 : ∀ m : Int, 0 < m → Int.tdiv c m = c / m := fun m hm => Int.tdiv_eq_ediv_of_nonneg (by omega)
    have t1 : Int.tmod c 64 = c % 64 := Int.tmod_eq_emod_of_nonneg (by omega)
    have q1 : wrap64 (c / 64) = c / 64 := w64 (by omega) (by omega)
    have q2 : wrap64 (c / 4096) = c / 4096 := w64 (by omega) (by omega)
    have q3 : wrap64 (c / 262144) = c / 262144 := w64 (by omega) (by omega)
    have t2 : Int.tmod (c / 64) 64 = c / 64 % 64 := Int.tmod_eq_emod_of_nonneg (by omega)
    have t3 : Int.tmod (c / 4096) 64 = c / 4096 % 64 := Int.tmod_eq_emod_of_nonneg (by omega)
    simp only [trunnionref16_Put.j0]
    unfold encL
    rw [if_neg h, if_neg (by simp), t0 64 (by decide), t0 4096 (by decide), t0 262144 (by decide), t1, q1, q2, q3, t2, t3]
    by_cases c1 : c < 128
    · rw [if_pos c1, if_pos c1]; congr 2; omega
    rw [if_neg c1, if_neg c1]
    by_cases c2 : c < 2048
    · rw [if_pos c2, if_pos c2, w64 (n := 192 + c / 64) (by omega) (by omega), w64 (n := 128 + c % 64) (by omega) (by omega)]
      congr 2
      · omega
      · congr 1; omega
    rw [if_neg c2, if_neg c2]
    by_cases c3 : c < 65536
    · rw [if_pos c3, if_pos c3, w64 (n := 224 + c / 4096) (by omega) (by omega), w64 (n := 128 + c / 64 % 64) (by omega) (by omega), w64 (n := 128 + c % 64) (by omega) (by omega)]
      congr 2
      · omega
      · congr 1
        · omega
        · congr 1; omega
    rw [if_neg c3, if_neg c3, w64 (n := 240 + c / 262144) (by omega) (by omega), w64 (n := 128 + c / 4096 % 64) (by omega) (by omega), w64 (n := 128 + c / 64 % 64) (by omega) (by omega), w64 (n := 128 + c % 64) (by omega) (by omega)]
    congr 2
    · omega
    · congr 1
      · omega
      · congr 1
        · omega
        · congr 1; omega
  refine ⟨1, fun k hk => ?_⟩
  obtain ⟨k, rfl⟩ : ∃ m, k = m + 1 := ⟨k - 1, by omega⟩
  show trunnionref16_Put.f (k + 1) c = _
  unfold trunnionref16_Put.f
  by_cases c1 : c < 0
  · rw [if_pos c1]; exact hbad (by omega) k
  rw [if_neg c1]
  by_cases c2 : c > 1114111
  · rw [if_pos c2]; exact hbad (by omega) k
  rw [if_neg c2]
  by_cases c3 : c ≥ 55296
  · rw [if_pos c3]
    by_cases c4 : c ≤ 57343
    · rw [decide_eq_true c4]; exact hbad (by omega) k
    · rw [decide_eq_false c4]; exact hgood (by omega) k
  · rw [if_neg c3]; exact hgood (by omega) k
/-- Are so many numbers, from a place on, those of the bytes? -/
def eqR (p l : List Int) (i : Nat) : Nat → Nat → Bool
  | j, 0 => true
  | j, d + 1 => rd p (j : Int) == rd l ((i + j : Nat) : Int) && eqR p l i (j + 1) d
theorem l2_ev (p l : List Int) (i n : Nat) (c : Int) (R : Int × Int) (hl : l.length ≤ 6000) (hp : p.length = n) (hi : i + n ≤ l.length) (hR : Ev (fun k => trunnionref16_Next.l0 k l (i : Int) ((n : Int) + 1)) R) (d : Nat) :
    ∀ j, j + d = n → ∀ b : Bool, Ev (fun k => trunnionref16_Next.l2 k l (i : Int) (n : Int) c p b (j : Int)) (if (b && eqR p l i j d) = true then (c, (i : Int) + (n : Int)) else R) := by
  induction d with
  | zero =>
    intro j hj b
    cases b with
    | true =>
      refine Ev.step (f := fun _ => some (c, (i : Int) + (n : Int))) (fun k => ?_) ?_
      · simp only [trunnionref16_Next.l2]
        rw [if_neg (by omega), if_pos trivial, w64 (by omega) (by omega)]
      · simp only [eqR, Bool.and_self, if_true]
        exact Ev.now _
    | false =>
      refine Ev.step (f := fun k => trunnionref16_Next.l0 k l (i : Int) ((n : Int) + 1)) (fun k => ?_) ?_
      · simp only [trunnionref16_Next.l2]
        rw [if_neg (by omega), if_neg (by simp), w64 (by omega) (by omega)]
      · simpa using hR
  | succ d ih =>
    intro j hj b
    cases b with
    | true =>
      have h := ih (j + 1) (by omega) (rd p (j : Int) == rd l ((i + j : Nat) : Int))
      refine Ev.step (f := fun k => trunnionref16_Next.l2 k l (i : Int) (n : Int) c p (rd p (j : Int) == rd l ((i + j : Nat) : Int)) ((j + 1 : Nat) : Int)) (fun k => ?_) ?_
      · simp only [trunnionref16_Next.l2]
        have e : wrap64 ((i : Int) + (j : Int)) = ((i + j : Nat) : Int) := by rw [w64 (by omega) (by omega)]; omega
        have e1 : wrap64 ((j : Int) + 1) = ((j + 1 : Nat) : Int) := by rw [w64 (by omega) (by omega)]; omega
        rw [if_pos (by omega), if_pos trivial, if_pos (by omega), if_pos (by omega), e, if_pos (by omega), if_pos (by omega), e1]
      · have e2 : (true && eqR p l i j (d + 1)) = ((rd p (j : Int) == rd l ((i + j : Nat) : Int)) && eqR p l i (j + 1) d) := by simp [eqR]
        rw [e2]
        exact h
    | false =>
      refine Ev.step (f := fun k => trunnionref16_Next.l0 k l (i : Int) ((n : Int) + 1)) (fun k => ?_) ?_
      · simp only [trunnionref16_Next.l2]
        rw [if_pos (by omega), if_neg (by simp), w64 (by omega) (by omega)]
      · simpa using hR
/-- Behind the number: its bytes are held against those that stand there. -/
theorem end_ev (l : List Int) (i n : Nat) (c : Int) (R : Int × Int) (hl : l.length ≤ 6000) (hn : 1 ≤ n) (hi : i + n ≤ l.length) (hR : Ev (fun k => trunnionref16_Next.l0 k l (i : Int) ((n : Int) + 1)) R) :
    Ev (fun k => (trunnionref16_Put.f k c).bind fun t121 => (trunnionref16_Next.l2 k l (i : Int) (n : Int) c t121 ((t121.length : Int) == (n : Int)) 0)) (if (encL c).length = n ∧ eqR (encL c) l i 0 n = true then (c, (i : Int) + (n : Int)) else R) := by
  refine Ev.bind (put_ev c) ?_
  by_cases h : (encL c).length = n
  · have hb : (((encL c).length : Int) == (n : Int)) = true := by rw [h]; simp
    rw [hb]
    have := l2_ev (encL c) l i n c R hl h hi hR n 0 (by omega) true
    simpa [h] using this
  · have hb : (((encL c).length : Int) == (n : Int)) = false := by simp; omega
    rw [hb, if_neg (fun hh => h hh.1)]
    refine Ev.step (f := fun k => trunnionref16_Next.l0 k l (i : Int) ((n : Int) + 1)) (fun k => ?_) hR
    simp only [trunnionref16_Next.l2]
    rw [if_pos (by omega), if_neg (by simp), w64 (by omega) (by omega)]

/-- The number that so many bytes would make. -/
def num1 (l : List Int) (i : Nat) : Int := rd l (i : Int)
def num2 (l : List Int) (i : Nat) : Int := 64 * (rd l (i : Int) - 192) + rd l ((i + 1 : Nat) : Int) - 128
def num3 (l : List Int) (i : Nat) : Int := 64 * (64 * (rd l (i : Int) - 224) + rd l ((i + 1 : Nat) : Int) - 128) + rd l ((i + 2 : Nat) : Int) - 128
def num4 (l : List Int) (i : Nat) : Int := 64 * (64 * (64 * (rd l (i : Int) - 240) + rd l ((i + 1 : Nat) : Int) - 128) + rd l ((i + 2 : Nat) : Int) - 128) + rd l ((i + 3 : Nat) : Int) - 128
theorem l1_step (l : List Int) (hok : okB l) (i n j : Nat) (v : Int) (k : Nat) (hl : l.length ≤ 6000) (hj : j < n) (hi : i + n ≤ l.length) (v0 : -1000000000000 ≤ v) (v1 : v ≤ 1000000000000) :
    trunnionref16_Next.l1 (k + 1) l (i : Int) (n : Int) v (j : Int) = trunnionref16_Next.l1 k l (i : Int) (n : Int) (64 * v + rd l ((i + j : Nat) : Int) - 128) ((j + 1 : Nat) : Int) := by
  have hr := rd_range hok ((i + j : Nat) : Int)
  have e : wrap64 ((i : Int) + (j : Int)) = ((i + j : Nat) : Int) := by rw [w64 (by omega) (by omega)]; omega
  have e1 : wrap64 ((j : Int) + 1) = ((j + 1 : Nat) : Int) := by rw [w64 (by omega) (by omega)]; omega
  simp only [trunnionref16_Next.l1]
  rw [if_pos (by omega), e, if_pos (by omega), if_pos (by omega), e1, w64 (n := 64 * v) (by omega) (by omega), w64 (n := rd l ((i + j : Nat) : Int)) (by omega) (by omega), w64 (n := 64 * v + rd l ((i + j : Nat) : Int)) (by omega) (by omega), w64 (n := 64 * v + rd l ((i + j : Nat) : Int) - 128) (by omega) (by omega)]
theorem l1_end (l : List Int) (i n : Nat) (v : Int) (k : Nat) : trunnionref16_Next.l1 (k + 1) l (i : Int) (n : Int) v (n : Int) = (trunnionref16_Put.f k v).bind fun t121 => (trunnionref16_Next.l2 k l (i : Int) (n : Int) v t121 ((t121.length : Int) == (n : Int)) 0) := by
  simp only [trunnionref16_Next.l1]
  rw [if_neg (by omega)]
/-- Up to the number's loop. -/
theorem l0_head (l : List Int) (hok : okB l) (i n : Nat) (k : Nat) (hl : l.length ≤ 6000) (hn : 1 ≤ n) (hn4 : n ≤ 4) (hi : i + n ≤ l.length) :
    trunnionref16_Next.l0 (k + 5) l (i : Int) (n : Int) = trunnionref16_Next.l1 k l (i : Int) (n : Int) (rd l (i : Int) - (if n = 2 then 192 else if n = 3 then 224 else if n = 4 then 240 else 0)) ((1 : Nat) : Int) := by
  have hr := rd_range hok (i : Int)
  have e : wrap64 ((i : Int) + (n : Int)) = (i : Int) + (n : Int) := w64 (by omega) (by omega)
  simp only [trunnionref16_Next.l0]
  rw [if_pos (by omega), e, decide_eq_true (by omega)]
  simp only [trunnionref16_Next.j2]
  rw [if_pos trivial, if_pos (by omega), if_pos (by omega), w64 (n := rd l (i : Int)) (by omega) (by omega)]
  by_cases c2 : n = 2
  · subst c2
    rw [if_pos (by decide), w64 (n := rd l (i : Int) - 192) (by omega) (by omega)]
    simp [trunnionref16_Next.j3, trunnionref16_Next.j4, trunnionref16_Next.j5]
  rw [if_neg (by omega)]
  simp only [trunnionref16_Next.j3]
  by_cases c3 : n = 3
  · subst c3
    rw [if_pos (by decide), w64 (n := rd l (i : Int) - 224) (by omega) (by omega)]
    simp [trunnionref16_Next.j4, trunnionref16_Next.j5]
  rw [if_neg (by omega)]
  simp only [trunnionref16_Next.j4]
  by_cases c4 : n = 4
  · subst c4
    rw [if_pos (by decide), w64 (n := rd l (i : Int) - 240) (by omega) (by omega)]
    simp [trunnionref16_Next.j5]
  rw [if_neg (by omega)]
  simp only [trunnionref16_Next.j5]
  rw [if_neg c2, if_neg c3, if_neg c4, Int.sub_zero]
  rfl
/-- No more can be tried. -/
theorem l0_none (l : List Int) (i n : Nat) (hl : l.length ≤ 6000) (hn : n ≤ 5) (hi : i < l.length) (h : n > 4 ∨ i + n > l.length) : Ev (fun k => trunnionref16_Next.l0 k l (i : Int) (n : Int)) (-1, 0) := by
  refine ⟨2, fun k hk => ?_⟩
  obtain ⟨k, rfl⟩ : ∃ m, k = m + 2 := ⟨k - 2, by omega⟩
  have e : wrap64 ((i : Int) + (n : Int)) = (i : Int) + (n : Int) := w64 (by omega) (by omega)
  simp only [trunnionref16_Next.l0]
  by_cases c : (n : Int) ≤ 4
  · rw [if_pos c, e, decide_eq_false (by omega)]
    simp [trunnionref16_Next.j2]
  · rw [if_neg c]
    simp [trunnionref16_Next.j2]
theorem try4 (l : List Int) (hok : okB l) (i : Nat) (hl : l.length ≤ 6000) (hi : i + 4 ≤ l.length) : Ev (fun k => trunnionref16_Next.l0 k l (i : Int) ((4 : Nat) : Int)) (if (encL (num4 l i)).length = 4 ∧ eqR (encL (num4 l i)) l i 0 4 = true then (num4 l i, (i : Int) + ((4 : Nat) : Int)) else (-1, 0)) := by
  have r0 := rd_range hok (i : Int)
  have r1 := rd_range hok ((i + 1 : Nat) : Int)
  have r2 := rd_range hok ((i + 2 : Nat) : Int)
  have h := end_ev l i 4 (num4 l i) (-1, 0) hl (by decide) hi (l0_none l i 5 hl (by decide) (by omega) (.inl (by decide)))
  obtain ⟨K, hK⟩ := h
  refine ⟨K + 9, fun k hk => ?_⟩
  obtain ⟨k, rfl⟩ : ∃ m, k = m + 4 + 5 := ⟨k - 9, by omega⟩
  show trunnionref16_Next.l0 (k + 4 + 5) l (i : Int) ((4 : Nat) : Int) = _
  rw [l0_head l hok i 4 (k + 4) hl (by decide) (by decide) hi, if_neg (by decide), if_neg (by decide), if_pos rfl]
  rw [l1_step l hok i 4 1 _ (k + 3) hl (by decide) hi (by omega) (by omega), l1_step l hok i 4 2 _ (k + 2) hl (by decide) hi (by omega) (by omega), l1_step l hok i 4 3 _ (k + 1) hl (by decide) hi (by omega) (by omega), l1_end l i 4]
  exact hK k (by omega)
theorem try3 (l : List Int) (hok : okB l) (i : Nat) (hl : l.length ≤ 6000) (hi : i + 3 ≤ l.length) (R : Int × Int) (hR : Ev (fun k => trunnionref16_Next.l0 k l (i : Int) ((4 : Nat) : Int)) R) : Ev (fun k => trunnionref16_Next.l0 k l (i : Int) ((3 : Nat) : Int)) (if (encL (num3 l i)).length = 3 ∧ eqR (encL (num3 l i)) l i 0 3 = true then (num3 l i, (i : Int) + ((3 : Nat) : Int)) else R) := by
  have r0 := rd_range hok (i : Int)
  have r1 := rd_range hok ((i + 1 : Nat) : Int)
  have h := end_ev l i 3 (num3 l i) R hl (by decide) hi hR
  obtain ⟨K, hK⟩ := h
  refine ⟨K + 8, fun k hk => ?_⟩
  obtain ⟨k, rfl⟩ : ∃ m, k = m + 3 + 5 := ⟨k - 8, by omega⟩
  show trunnionref16_Next.l0 (k + 3 + 5) l (i : Int) ((3 : Nat) : Int) = _
  rw [l0_head l hok i 3 (k + 3) hl (by decide) (by decide) hi, if_neg (by decide), if_pos rfl]
  rw [l1_step l hok i 3 1 _ (k + 2) hl (by decide) hi (by omega) (by omega), l1_step l hok i 3 2 _ (k + 1) hl (by decide) hi (by omega) (by omega), l1_end l i 3]
  exact hK k (by omega)
theorem try2 (l : List Int) (hok : okB l) (i : Nat) (hl : l.length ≤ 6000) (hi : i + 2 ≤ l.length) (R : Int × Int) (hR : Ev (fun k => trunnionref16_Next.l0 k l (i : Int) ((3 : Nat) : Int)) R) : Ev (fun k => trunnionref16_Next.l0 k l (i : Int) ((2 : Nat) : Int)) (if (encL (num2 l i)).length = 2 ∧ eqR (encL (num2 l i)) l i 0 2 = true then (num2 l i, (i : Int) + ((2 : Nat) : Int)) else R) := by
  have r0 := rd_range hok (i : Int)
  have h := end_ev l i 2 (num2 l i) R hl (by decide) hi hR
  obtain ⟨K, hK⟩ := h
  refine ⟨K + 7, fun k hk => ?_⟩
  obtain ⟨k, rfl⟩ : ∃ m, k = m + 2 + 5 := ⟨k - 7, by omega⟩
  show trunnionref16_Next.l0 (k + 2 + 5) l (i : Int) ((2 : Nat) : Int) = _
  rw [l0_head l hok i 2 (k + 2) hl (by decide) (by decide) hi, if_pos rfl]
  rw [l1_step l hok i 2 1 _ (k + 1) hl (by decide) hi (by omega) (by omega), l1_end l i 2]
  exact hK k (by omega)
theorem try1 (l : List Int) (hok : okB l) (i : Nat) (hl : l.length ≤ 6000) (hi : i + 1 ≤ l.length) (R : Int × Int) (hR : Ev (fun k => trunnionref16_Next.l0 k l (i : Int) ((2 : Nat) : Int)) R) : Ev (fun k => trunnionref16_Next.l0 k l (i : Int) ((1 : Nat) : Int)) (if (encL (num1 l i)).length = 1 ∧ eqR (encL (num1 l i)) l i 0 1 = true then (num1 l i, (i : Int) + ((1 : Nat) : Int)) else R) := by
  have h := end_ev l i 1 (num1 l i) R hl (by decide) hi hR
  obtain ⟨K, hK⟩ := h
  refine ⟨K + 6, fun k hk => ?_⟩
  obtain ⟨k, rfl⟩ : ∃ m, k = m + 1 + 5 := ⟨k - 6, by omega⟩
  show trunnionref16_Next.l0 (k + 1 + 5) l (i : Int) ((1 : Nat) : Int) = _
  rw [l0_head l hok i 1 (k + 1) hl (by decide) (by decide) hi, if_neg (by decide), if_neg (by decide), if_neg (by decide), Int.sub_zero, l1_end l i 1]
  exact hK k (by omega)
end Go.Proofs.Ytjhdnlgbboboiaa.ScanU

/- The plain law of the document's characters, joined: its character at a place is the one at the front; its count. -/
namespace Go.Proofs.Ytjhdnlgbboboiaa.ScanU
open Go.RowKit Go.Proofs.YtjhdnlgbboboiaaW.PrintWords Go.Proofs.Ytjhdnlgbboboiaa.Leb Go.Proofs.Ytjhdnlgbboboiaa.PScanReads Go.Proofs.Ytjhdnlgbboboiaa.Utf
set_option linter.unusedVariables false

theorem cond1 (l : List Int) (i : Nat) (c : Int) : ((encL c).length = 1 ∧ eqR (encL c) l i 0 1 = true) ↔ (0 ≤ c ∧ c < 128 ∧ c = rd l (i : Int)) := by
  unfold encL
  split
  · simp; omega
  · split
    · simp [eqR, rd]; omega
    · split
      · simp; omega
      · split
        · simp; omega
        · simp; omega
theorem cond2 (l : List Int) (i : Nat) (c : Int) : ((encL c).length = 2 ∧ eqR (encL c) l i 0 2 = true) ↔ (128 ≤ c ∧ c < 2048 ∧ 192 + c / 64 = rd l (i : Int) ∧ 128 + c % 64 = rd l ((i + 1 : Nat) : Int)) := by
  unfold encL
  split
  · simp; omega
  · split
    · simp; omega
    · split
      · simp [eqR, rd]; omega
      · split
        · simp; omega
        · simp; omega
theorem cond3 (l : List Int) (i : Nat) (c : Int) : ((encL c).length = 3 ∧ eqR (encL c) l i 0 3 = true) ↔ (2048 ≤ c ∧ c < 65536 ∧ ¬ (55296 ≤ c ∧ c ≤ 57343) ∧ 224 + c / 4096 = rd l (i : Int) ∧ 128 + c / 64 % 64 = rd l ((i + 1 : Nat) : Int) ∧ 128 + c % 64 = rd l ((i + 2 : Nat) : Int)) := by
  unfold encL
  split
  · simp; omega
  · split
    · simp; omega
    · split
      · simp; omega
      · split
        · simp [eqR, rd]; omega
        · simp; omega
theorem cond4 (l : List Int) (i : Nat) (c : Int) : ((encL c).length = 4 ∧ eqR (encL c) l i 0 4 = true) ↔ (65536 ≤ c ∧ c ≤ 1114111 ∧ 240 + c / 262144 = rd l (i : Int) ∧ 128 + c / 4096 % 64 = rd l ((i + 1 : Nat) : Int) ∧ 128 + c / 64 % 64 = rd l ((i + 2 : Nat) : Int) ∧ 128 + c % 64 = rd l ((i + 3 : Nat) : Int)) := by
  unfold encL
  split
  · simp; omega
  · split
    · simp; omega
    · split
      · simp; omega
      · split
        · simp; omega
        · simp [eqR, rd]; omega
def nextR (l : List Int) (i : Nat) : Int × Int := match uDec (l.drop i) with | some (c, n) => (c, (i : Int) + (n : Int)) | none => (-1, 0)
theorem next_ref (l : List Int) (hok : okB l) (i : Nat) (hl : l.length ≤ 6000) (hi : i < l.length) : Ev (fun k => trunnionref16_Next.f k l (i : Int)) (nextR l i) := by
  have z0 := rd_range hok (i : Int)
  have z1 := rd_range hok ((i + 1 : Nat) : Int)
  have z2 := rd_range hok ((i + 2 : Nat) : Int)
  have z3 := rd_range hok ((i + 3 : Nat) : Int)
  have r0 := rd_drop' l i 0
  have r1 := rd_drop' l i 1
  have r2 := rd_drop' l i 2
  have r3 := rd_drop' l i 3
  rw [show ((0 : Nat) : Int) = 0 from rfl, Nat.add_zero] at r0
  rw [show ((1 : Nat) : Int) = 1 from rfl] at r1
  rw [show ((2 : Nat) : Int) = 2 from rfl] at r2
  rw [show ((3 : Nat) : Int) = 3 from rfl] at r3
  have hu : nextR l i = (match sDec (rd l (i : Int)) (rd l ((i + 1 : Nat) : Int)) (rd l ((i + 2 : Nat) : Int)) (rd l ((i + 3 : Nat) : Int)) (l.length - i) with | some (c, n) => (c, (i : Int) + (n : Int)) | none => (-1, 0)) := by
    unfold nextR uDec
    rw [r0, r1, r2, r3, List.length_drop]
  have q1 := cond1 l i (num1 l i)
  have q2 := cond2 l i (num2 l i)
  have q3 := cond3 l i (num3 l i)
  have q4 := cond4 l i (num4 l i)
  have R4 : ∃ R4, Ev (fun k => trunnionref16_Next.l0 k l (i : Int) ((4 : Nat) : Int)) R4 ∧ R4 = if i + 4 ≤ l.length ∧ ((encL (num4 l i)).length = 4 ∧ eqR (encL (num4 l i)) l i 0 4 = true) then (num4 l i, (i : Int) + ((4 : Nat) : Int)) else (-1, 0) := by
    by_cases h : i + 4 ≤ l.length
    · refine ⟨_, try4 l hok i hl h, ?_⟩
      simp only [h, true_and]
    · refine ⟨_, l0_none l i 4 hl (by decide) hi (.inr (by omega)), ?_⟩
      rw [if_neg (fun hh => h hh.1)]
  obtain ⟨R4, e4, v4⟩ := R4
  have R3 : ∃ R3, Ev (fun k => trunnionref16_Next.l0 k l (i : Int) ((3 : Nat) : Int)) R3 ∧ R3 = if i + 3 ≤ l.length then (if ((encL (num3 l i)).length = 3 ∧ eqR (encL (num3 l i)) l i 0 3 = true) then (num3 l i, (i : Int) + ((3 : Nat) : Int)) else R4) else (-1, 0) := by
    by_cases h : i + 3 ≤ l.length
    · refine ⟨_, try3 l hok i hl h R4 e4, ?_⟩
      rw [if_pos h]
    · refine ⟨_, l0_none l i 3 hl (by decide) hi (.inr (by omega)), ?_⟩
      rw [if_neg h]
  obtain ⟨R3, e3, v3⟩ := R3
  have R2 : ∃ R2, Ev (fun k => trunnionref16_Next.l0 k l (i : Int) ((2 : Nat) : Int)) R2 ∧ R2 = if i + 2 ≤ l.length then (if ((encL (num2 l i)).length = 2 ∧ eqR (encL (num2 l i)) l i 0 2 = true) then (num2 l i, (i : Int) + ((2 : Nat) : Int)) else R3) else (-1, 0) := by
    by_cases h : i + 2 ≤ l.length
    · refine ⟨_, try2 l hok i hl h R3 e3, ?_⟩
      rw [if_pos h]
    · refine ⟨_, l0_none l i 2 hl (by decide) hi (.inr (by omega)), ?_⟩
      rw [if_neg h]
  obtain ⟨R2, e2, v2⟩ := R2
  have e1 := try1 l hok i hl (by omega) R2 e2
  have hfin : (if (encL (num1 l i)).length = 1 ∧ eqR (encL (num1 l i)) l i 0 1 = true then (num1 l i, (i : Int) + ((1 : Nat) : Int)) else R2) = nextR l i := by
    rw [hu, v2, v3, v4]
    clear hu v2 v3 v4 e1 e2 e3 e4 r0 r1 r2 r3
    simp only [q1, q2, q3, q4]
    unfold num1 num2 num3 num4
    clear q1 q2 q3 q4 hok
    generalize rd l (i : Int) = x0 at *
    generalize rd l ((i + 1 : Nat) : Int) = x1 at *
    generalize rd l ((i + 2 : Nat) : Int) = x2 at *
    generalize rd l ((i + 3 : Nat) : Int) = x3 at *
    obtain ⟨n, hn⟩ : ∃ n, l.length = i + n := ⟨l.length - i, by omega⟩
    rw [hn, show i + n - i = n from by omega]
    have fin : ∀ o : Option (Int × Nat), sDec x0 x1 x2 x3 n = o → ∀ v : Int × Int, (match o with | some (c, n) => (c, (i : Int) + (n : Int)) | none => (-1, 0)) = v → (match sDec x0 x1 x2 x3 n with | some (c, n) => (c, (i : Int) + (n : Int)) | none => (-1, 0)) = v := by
      intro o h1 v h2
      rw [h1]
      exact h2
    symm
    by_cases c1 : x0 < 128
    · refine fin (some (x0, 1)) (by unfold sDec; rw [if_pos c1]) _ ?_
      rw [if_pos (by omega)]
    rw [if_neg (by omega)]
    by_cases c2 : 192 ≤ x0 ∧ x0 < 224 ∧ 2 ≤ n ∧ (128 ≤ x1 ∧ x1 < 192) ∧ 128 ≤ (x0 - 192) * 64 + (x1 - 128)
    · refine fin (some ((x0 - 192) * 64 + (x1 - 128), 2)) (by unfold sDec cont; rw [if_neg c1, if_pos c2]) _ ?_
      rw [if_pos (by omega), if_pos (by omega)]
      simp only
      congr 1
      omega
    by_cases d2 : i + 2 ≤ i + n
    · rw [if_pos d2, if_neg (by omega)]
      by_cases c3 : 224 ≤ x0 ∧ x0 < 240 ∧ 3 ≤ n ∧ (128 ≤ x1 ∧ x1 < 192) ∧ (128 ≤ x2 ∧ x2 < 192) ∧ 2048 ≤ (x0 - 224) * 4096 + (x1 - 128) * 64 + (x2 - 128) ∧ ((x0 - 224) * 4096 + (x1 - 128) * 64 + (x2 - 128) < 55296 ∨ 57344 ≤ (x0 - 224) * 4096 + (x1 - 128) * 64 + (x2 - 128))
      · refine fin (some ((x0 - 224) * 4096 + (x1 - 128) * 64 + (x2 - 128), 3)) (by unfold sDec cont; rw [if_neg c1, if_neg c2, if_pos c3]) _ ?_
        rw [if_pos (by omega), if_pos (by omega)]
        simp only
        congr 1
        omega
      by_cases d3 : i + 3 ≤ i + n
      · rw [if_pos d3, if_neg (by omega)]
        by_cases c4 : 240 ≤ x0 ∧ x0 < 248 ∧ 4 ≤ n ∧ (128 ≤ x1 ∧ x1 < 192) ∧ (128 ≤ x2 ∧ x2 < 192) ∧ (128 ≤ x3 ∧ x3 < 192) ∧ 65536 ≤ (x0 - 240) * 262144 + (x1 - 128) * 4096 + (x2 - 128) * 64 + (x3 - 128) ∧ (x0 - 240) * 262144 + (x1 - 128) * 4096 + (x2 - 128) * 64 + (x3 - 128) ≤ 1114111
        · refine fin (some ((x0 - 240) * 262144 + (x1 - 128) * 4096 + (x2 - 128) * 64 + (x3 - 128), 4)) (by unfold sDec cont; rw [if_neg c1, if_neg c2, if_neg c3, if_pos c4]) _ ?_
          rw [if_pos (by omega)]
          simp only
          congr 1
          omega
        · refine fin none (by unfold sDec cont; rw [if_neg c1, if_neg c2, if_neg c3, if_neg c4]) _ ?_
          rw [if_neg (by omega)]
      · refine fin none (by unfold sDec cont; rw [if_neg c1, if_neg c2, if_neg c3, if_neg (by omega)]) _ ?_
        rw [if_neg d3]
    · refine fin none (by unfold sDec cont; rw [if_neg c1, if_neg c2, if_neg (by omega), if_neg (by omega)]) _ ?_
      rw [if_neg d2]
  rw [hfin] at e1
  obtain ⟨K, hK⟩ := e1
  refine ⟨K + 1, fun k hk => ?_⟩
  obtain ⟨k, rfl⟩ : ∃ m, k = m + 1 := ⟨k - 1, by omega⟩
  show trunnionref16_Next.f (k + 1) l (i : Int) = _
  unfold trunnionref16_Next.f
  rw [if_neg (by omega), decide_eq_false (by omega)]
  simp only [trunnionref16_Next.j0]
  rw [if_neg (by simp)]
  exact hK k (by omega)
theorem next_out (l : List Int) (a : Int) (h : a < 0 ∨ a ≥ l.length) : Ev (fun k => trunnionref16_Next.f k l a) (-1, 0) := by
  refine ⟨1, fun k hk => ?_⟩
  obtain ⟨k, rfl⟩ : ∃ m, k = m + 1 := ⟨k - 1, by omega⟩
  show trunnionref16_Next.f (k + 1) l a = _
  unfold trunnionref16_Next.f
  split
  · simp [trunnionref16_Next.j0]
  · rw [decide_eq_true (by omega)]
    simp [trunnionref16_Next.j0]
end Go.Proofs.Ytjhdnlgbboboiaa.ScanU

/- The plain law of counting characters: the program's and the document's, both as one plain count. -/
namespace Go.Proofs.Ytjhdnlgbboboiaa.ScanU
open Go.RowKit Go.Proofs.YtjhdnlgbboboiaaW.PrintWords Go.Proofs.Ytjhdnlgbboboiaa.Leb Go.Proofs.Ytjhdnlgbboboiaa.PScanReads Go.Proofs.Ytjhdnlgbboboiaa.Utf
set_option linter.unusedVariables false

theorem rd_take (m : List Int) (k j : Nat) (h : j < k) : rd (m.take k) (j : Int) = rd m (j : Int) := by
  unfold rd
  rw [Int.toNat_natCast, List.getD_eq_getElem?_getD, List.getD_eq_getElem?_getD, List.getElem?_take, if_pos h]
theorem uDec_take5 (m : List Int) : uDec (m.take 5) = uDec m := by
  unfold uDec
  have r0 := rd_take m 5 0 (by decide)
  have r1 := rd_take m 5 1 (by decide)
  have r2 := rd_take m 5 2 (by decide)
  have r3 := rd_take m 5 3 (by decide)
  rw [show ((0 : Nat) : Int) = 0 from rfl] at r0
  rw [show ((1 : Nat) : Int) = 1 from rfl] at r1
  rw [show ((2 : Nat) : Int) = 2 from rfl] at r2
  rw [show ((3 : Nat) : Int) = 3 from rfl] at r3
  rw [r0, r1, r2, r3, List.length_take]
  unfold sDec
  have a2 : (2 ≤ min 5 m.length) = (2 ≤ m.length) := propext (by omega)
  have a3 : (3 ≤ min 5 m.length) = (3 ≤ m.length) := propext (by omega)
  have a4 : (4 ≤ min 5 m.length) = (4 ≤ m.length) := propext (by omega)
  simp only [a2, a3, a4]
theorem sDec_width {x0 x1 x2 x3 : Int} {n : Nat} {c : Int} {k : Nat} (h : sDec x0 x1 x2 x3 n = some (c, k)) (hx : 0 ≤ x0) (hn : 1 ≤ n) : 1 ≤ k ∧ k ≤ n ∧ 0 ≤ c ∧ c ≤ 1114111 := by
  unfold sDec cont at h
  split at h
  · obtain ⟨rfl, rfl⟩ := Prod.mk.inj (Option.some.inj h); omega
  · split at h
    · obtain ⟨rfl, rfl⟩ := Prod.mk.inj (Option.some.inj h); omega
    · split at h
      · obtain ⟨rfl, rfl⟩ := Prod.mk.inj (Option.some.inj h); omega
      · split at h
        · obtain ⟨rfl, rfl⟩ := Prod.mk.inj (Option.some.inj h); omega
        · cases h
theorem uDec_width {m : List Int} (hok : okB m) {c : Int} {k : Nat} (h : uDec m = some (c, k)) (hn : 1 ≤ m.length) : 1 ≤ k ∧ k ≤ m.length ∧ 0 ≤ c ∧ c ≤ 1114111 :=
  sDec_width h (rd_range hok 0).1 hn
theorem okB_drop {l : List Int} (h : okB l) (p : Nat) : okB (l.drop p) := fun x hx => h x (List.mem_of_mem_drop hx)
theorem okB_take' {l : List Int} (h : okB l) (p : Nat) : okB (l.take p) := fun x hx => h x (List.mem_of_mem_take hx)
theorem nextF_is (l : List Int) (hok : okB l) (i : Nat) (hl : l.length ≤ 1000000) (hi : i < l.length) : nextF l (i : Int) = (match uDec (l.drop i) with | some (c, n) => (c, (i : Int) + (n : Int), true) | none => (0, 0, false)) := by
  unfold nextF
  rw [if_neg (by omega), Int.toNat_natCast]
  obtain ⟨m, hm⟩ : ∃ m, m = (l.drop i).take 5 := ⟨_, rfl⟩
  have hmok : okB m := by rw [hm]; exact okB_take' (okB_drop hok i) 5
  have hml : 0 < m.length := by rw [hm, List.length_take, List.length_drop]; omega
  have hml2 : m.length ≤ 1000000 := by rw [hm, List.length_take]; omega
  have hu : uDec (l.drop i) = uDec m := by rw [hm, uDec_take5]
  rw [← hm, hu]
  unfold nextT
  have hs : (strOfNums m).size = m.length := strOfNums_size m
  obtain ⟨d, hd⟩ : ∃ d, m.length = d + 1 := ⟨m.length - 1, by omega⟩
  rw [hs, hd]
  simp only [chars]
  rw [if_pos (by omega)]
  simp only [tellL]
  have ho := okc_is hmok 0 hml hml2
  have hdc := decode_is hmok 0 hml
  simp only [List.drop_zero] at ho hdc
  rw [ho]
  cases he : uDec m with
  | none => simp
  | some q =>
    obtain ⟨c, n⟩ := q
    rw [he] at hdc
    obtain ⟨h1, h2⟩ := Prod.mk.inj hdc
    have hw := uDec_width hmok he (by omega)
    simp only [Option.isSome_some, if_true]
    rw [if_neg (by simp [nextBl]), h1, h2]
    simp only [nextStp, Nat.zero_add]
    rw [w64 (by omega) (by omega)]
/-- How many characters bytes have, if they are a name. -/
def uCnt : Nat → List Int → Option Int
  | 0, _ => some 0
  | d + 1, m => if m.length = 0 then some 0 else match uDec m with
    | none => none
    | some (_, n) => (uCnt d (m.drop n)).map (· + 1)
theorem uCnt_range (d : Nat) : ∀ (m : List Int) (k : Int), uCnt d m = some k → 0 ≤ k ∧ k ≤ d := by
  induction d with
  | zero => intro m k h; simp [uCnt] at h; omega
  | succ d ih =>
    intro m k h
    unfold uCnt at h
    split at h
    · have := Option.some.inj h; omega
    · split at h
      · cases h
      · rename_i n he
        rw [Option.map_eq_some_iff] at h
        obtain ⟨q, hq, rfl⟩ := h
        have := ih _ _ hq
        omega
theorem count_tell (l : List Int) (hok : okB l) (hl : l.length ≤ 1000000) (d : Nat) : ∀ (p : Nat) (n : Int), l.length ≤ p + d → 0 ≤ n → n + (d : Int) ≤ 2000000 →
    ∃ q, tellL (strOfNums l) countStp countBl (chars (strOfNums l) d p) n = ((uCnt d (l.drop p)).isSome, q) ∧ ∀ k, uCnt d (l.drop p) = some k → q = n + k := by
  have hs : (strOfNums l).size = l.length := strOfNums_size l
  induction d with
  | zero =>
    intro p n hp n0 n1
    exact ⟨n, by simp [chars, tellL, uCnt], fun k h => by simp [uCnt] at h; omega⟩
  | succ d ih =>
    intro p n hp n0 n1
    by_cases h : p < l.length
    · have hlen : (l.drop p).length = l.length - p := List.length_drop
      have ho := okc_is hok p h hl
      have hdc := decode_is hok p h
      simp only [chars, uCnt]
      rw [if_pos (by omega), if_neg (by omega)]
      simp only [tellL]
      rw [ho]
      cases he : uDec (l.drop p) with
      | none => exact ⟨n, by simp, fun k hk => by simp at hk⟩
      | some q =>
        obtain ⟨c, w⟩ := q
        rw [he] at hdc
        obtain ⟨h1, h2⟩ := Prod.mk.inj hdc
        have hw := uDec_width (okB_drop hok p) he (by omega)
        simp only [Option.isSome_some, if_true, countBl]
        rw [h2]
        have e : countStp n ((Utf8.decode (strOfNums l) p).1 : Int) ((p + w : Nat) : Int) = n + 1 := by
          unfold countStp
          exact w64 (by omega) (by omega)
        rw [e]
        obtain ⟨q, hq1, hq2⟩ := ih (p + w) (n + 1) (by omega) (by omega) (by omega)
        refine ⟨q, ?_, ?_⟩
        · rw [hq1, List.drop_drop]
          simp
        · intro k hk
          rw [List.drop_drop, Option.map_eq_some_iff] at hk
          obtain ⟨k', hk', rfl⟩ := hk
          have := hq2 k' hk'
          omega
    · have hlen : (l.drop p).length = l.length - p := List.length_drop
      simp only [chars, uCnt]
      rw [if_neg (by omega), if_pos (by omega)]
      exact ⟨n, by simp [tellL], fun k hk => by simp at hk; omega⟩
theorem count_ref (l : List Int) (hok : okB l) (hl : l.length ≤ 6000) (d : Nat) : ∀ (p : Nat) (n : Int), l.length ≤ p + d → 0 ≤ n → n + (d : Int) ≤ 2000000 →
    Ev (fun k => trunnionref16_Count.l0 k l n (p : Int)) (match uCnt d (l.drop p) with | some k => n + k | none => -1) := by
  induction d with
  | zero =>
    intro p n hp n0 n1
    refine Ev.step (f := fun _ => some n) (fun k => ?_) ?_
    · simp only [trunnionref16_Count.l0]
      rw [if_neg (by omega)]
    · simp only [uCnt, Int.add_zero]
      exact Ev.now _
  | succ d ih =>
    intro p n hp n0 n1
    have hlen : (l.drop p).length = l.length - p := List.length_drop
    by_cases h : p < l.length
    · simp only [uCnt]
      rw [if_neg (by omega)]
      refine Ev.step (f := fun k => (trunnionref16_Next.f k l (p : Int)).bind fun bt129 => (if bt129.1 < 0 then (some (-1)) else (trunnionref16_Count.l0 k l (wrap64 (n + 1)) bt129.2))) (fun k => ?_) ?_
      · simp only [trunnionref16_Count.l0]
        rw [if_pos (by omega)]
      · refine Ev.bind (next_ref l hok p hl h) ?_
        unfold nextR
        cases he : uDec (l.drop p) with
        | none =>
          simp only
          exact ⟨0, fun k _ => if_pos (by decide)⟩
        | some q =>
          obtain ⟨c, w⟩ := q
          have hw := uDec_width (okB_drop hok p) he (by omega)
          simp only
          have hi := ih (p + w) (n + 1) (by omega) (by omega) (by omega)
          rw [← List.drop_drop] at hi
          obtain ⟨K, hK⟩ := hi
          refine ⟨K, fun k hk => ?_⟩
          show (if c < 0 then (some (-1)) else (trunnionref16_Count.l0 k l (wrap64 (n + 1)) ((p : Int) + (w : Int)))) = _
          rw [if_neg (by omega), w64 (by omega) (by omega), show (p : Int) + (w : Int) = ((p + w : Nat) : Int) from by omega]
          have := hK k hk
          simp only at this
          rw [this]
          cases uCnt d ((l.drop p).drop w) with
          | none => rfl
          | some k' =>
            simp only [Option.map_some]
            congr 1
            omega
    · simp only [uCnt]
      rw [if_pos (by omega)]
      refine Ev.step (f := fun _ => some n) (fun k => ?_) ?_
      · simp only [trunnionref16_Count.l0]
        rw [if_neg (by omega)]
      · simp only [Int.add_zero]
        exact Ev.now _
/-- What utf.Count tells. -/
theorem countSF_is (l : List Int) (hok : okB l) (hl : l.length ≤ 1000000) : countSF l = some (match uCnt l.length l with | some k => (k, true) | none => (0, false)) := by
  unfold countSF
  rw [if_pos hl]
  obtain ⟨q, h1, h2⟩ := count_tell l hok hl l.length 0 0 (by omega) (by omega) (by omega)
  have hs : (strOfNums l).size = l.length := strOfNums_size l
  unfold countT
  rw [hs, h1]
  rw [List.drop_zero] at h2 ⊢
  cases he : uCnt l.length l with
  | none => simp
  | some k =>
    have := h2 k he
    simp
    omega
end Go.Proofs.Ytjhdnlgbboboiaa.ScanU
