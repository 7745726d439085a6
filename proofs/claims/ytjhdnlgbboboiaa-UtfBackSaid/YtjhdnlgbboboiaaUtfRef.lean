/- The plain law of the document's characters: what its search over one to four bytes finds is the character at the front. -/
import Derived.Test.YtjhdnlgbboboiaaQ16x6
import Derived.Test.YtjhdnlgbboboiaaUtfMath
namespace Go.Proofs.Ytjhdnlgbboboiaa.Utf
open Go.RowKit Go.Proofs.YtjhdnlgbboboiaaW.PrintWords Go.Proofs.Ytjhdnlgbboboiaa.Leb Go.Proofs.Ytjhdnlgbboboiaa.Q16
set_option linter.unusedVariables false

theorem w64 {n : Int} (h0 : -9223372036854775808 ≤ n) (h1 : n < 9223372036854775808) : wrap64 n = n := by unfold wrap64; omega
/-- A character's bytes, as the document says; none: it is none. -/
def encL (c : Int) : List Int :=
  if c < 0 ∨ c > 1114111 ∨ 55296 ≤ c ∧ c ≤ 57343 then []
  else if c < 128 then [c]
  else if c < 2048 then [192 + c / 64, 128 + c % 64]
  else if c < 65536 then [224 + c / 4096, 128 + c / 64 % 64, 128 + c % 64]
  else [240 + c / 262144, 128 + c / 4096 % 64, 128 + c / 64 % 64, 128 + c % 64]
theorem put_ev (c : Int) : Ev (fun k => trunnionref16_Put.f k c) (encL c) := by
  have hbad : (c < 0 ∨ c > 1114111 ∨ 55296 ≤ c ∧ c ≤ 57343) → ∀ k, trunnionref16_Put.j0 (k + 1) c true = some (encL c) := by
    intro h k
    simp only [trunnionref16_Put.j0, if_true]
    unfold encL
    rw [if_pos h]
  have hgood : ¬ (c < 0 ∨ c > 1114111 ∨ 55296 ≤ c ∧ c ≤ 57343) → ∀ k, trunnionref16_Put.j0 (k + 1) c false = some (encL c) := by
    intro h k
    have t0 : ∀ m : Int, 0 < m → Int.tdiv c m = c / m := fun m hm => Int.tdiv_eq_ediv_of_nonneg (by omega)
    have t1 : Int.tmod c 64 = c % 64 := Int.tmod_eq_emod_of_nonneg (by omega)
    have q1 : wrap64 (c / 64) = c / 64 := w64 (by omega) (by omega)
    have q2 : wrap64 (c / 4096) = c / 4096 := w64 (by omega) (by omega)
    have q3 : wrap64 (c / 262144) = c / 262144 := w64 (by omega) (by omega)
    have t2 : Int.tmod (c / 64) 64 = c / 64 % 64 := Int.tmod_eq_emod_of_nonneg (by omega)
    have t3 : Int.tmod (c / 4096) 64 = c / 4096 % 64 := Int.tmod_eq_emod_of_nonneg (by omega)
    simp only [trunnionref16_Put.j0]
    unfold encL
    rw [if_neg h, if_neg (by simp), t0 64 (by decide), t0 4096 (by decide), t0 262144 (by decide), t1, q1, q2, q3, t2, t3]
    by_cases c1 : c < 128
    · rw [if_pos c1, if_pos c1]; congr 2; omega
    rw [if_neg c1, if_neg c1]
    by_cases c2 : c < 2048
    · rw [if_pos c2, if_pos c2, w64 (n := 192 + c / 64) (by omega) (by omega), w64 (n := 128 + c % 64) (by omega) (by omega)]
      congr 2
      · omega
      · congr 1; omega
    rw [if_neg c2, if_neg c2]
    by_cases c3 : c < 65536
    · rw [if_pos c3, if_pos c3, w64 (n := 224 + c / 4096) (by omega) (by omega), w64 (n := 128 + c / 64 % 64) (by omega) (by omega), w64 (n := 128 + c % 64) (by omega) (by omega)]
      congr 2
      · omega
      · congr 1
        · omega
        · congr 1; omega
    rw [if_neg c3, if_neg c3, w64 (n := 240 + c / 262144) (by omega) (by omega), w64 (n := 128 + c / 4096 % 64) (by omega) (by omega), w64 (n := 128 + c / 64 % 64) (by omega) (by omega), w64 (n := 128 + c % 64) (by omega) (by omega)]
    congr 2
    · omega
    · congr 1
      · omega
      · congr 1
        · omega
        · congr 1; omega
  refine ⟨1, fun k hk => ?_⟩
  obtain ⟨k, rfl⟩ : ∃ m, k = m + 1 := ⟨k - 1, by omega⟩
  show trunnionref16_Put.f (k + 1) c = _
  unfold trunnionref16_Put.f
  by_cases c1 : c < 0
  · rw [if_pos c1]; exact hbad (by omega) k
  rw [if_neg c1]
  by_cases c2 : c > 1114111
  · rw [if_pos c2]; exact hbad (by omega) k
  rw [if_neg c2]
  by_cases c3 : c ≥ 55296
  · rw [if_pos c3]
    by_cases c4 : c ≤ 57343
    · rw [decide_eq_true c4]; exact hbad (by omega) k
    · rw [decide_eq_false c4]; exact hgood (by omega) k
  · rw [if_neg c3]; exact hgood (by omega) k
/-- Are so many numbers, from a place on, those of the bytes? -/
def eqR (p l : List Int) (i : Nat) : Nat → Nat → Bool
  | j, 0 => true
  | j, d + 1 => rd p (j : Int) == rd l ((i + j : Nat) : Int) && eqR p l i (j + 1) d
theorem l2_ev (p l : List Int) (i n : Nat) (c : Int) (R : Int × Int) (hl : l.length ≤ 6000) (hp : p.length = n) (hi : i + n ≤ l.length) (hR : Ev (fun k => trunnionref16_Next.l0 k l (i : Int) ((n : Int) + 1)) R) (d : Nat) :
    ∀ j, j + d = n → ∀ b : Bool, Ev (fun k => trunnionref16_Next.l2 k l (i : Int) (n : Int) c p b (j : Int)) (if (b && eqR p l i j d) = true then (c, (i : Int) + (n : Int)) else R) := by
  induction d with
  | zero =>
    intro j hj b
    cases b with
    | true =>
      refine Ev.step (f := fun _ => some (c, (i : Int) + (n : Int))) (fun k => ?_) ?_
      · simp only [trunnionref16_Next.l2]
        rw [if_neg (by omega), if_pos trivial, w64 (by omega) (by omega)]
      · simp only [eqR, Bool.and_self, if_true]
        exact Ev.now _
    | false =>
      refine Ev.step (f := fun k => trunnionref16_Next.l0 k l (i : Int) ((n : Int) + 1)) (fun k => ?_) ?_
      · simp only [trunnionref16_Next.l2]
        rw [if_neg (by omega), if_neg (by simp), w64 (by omega) (by omega)]
      · simpa using hR
  | succ d ih =>
    intro j hj b
    cases b with
    | true =>
      have h := ih (j + 1) (by omega) (rd p (j : Int) == rd l ((i + j : Nat) : Int))
      refine Ev.step (f := fun k => trunnionref16_Next.l2 k l (i : Int) (n : Int) c p (rd p (j : Int) == rd l ((i + j : Nat) : Int)) ((j + 1 : Nat) : Int)) (fun k => ?_) ?_
      · simp only [trunnionref16_Next.l2]
        have e : wrap64 ((i : Int) + (j : Int)) = ((i + j : Nat) : Int) := by rw [w64 (by omega) (by omega)]; omega
        have e1 : wrap64 ((j : Int) + 1) = ((j + 1 : Nat) : Int) := by rw [w64 (by omega) (by omega)]; omega
        rw [if_pos (by omega), if_pos trivial, if_pos (by omega), if_pos (by omega), e, if_pos (by omega), if_pos (by omega), e1]
      · have e2 : (true && eqR p l i j (d + 1)) = ((rd p (j : Int) == rd l ((i + j : Nat) : Int)) && eqR p l i (j + 1) d) := by simp [eqR]
        rw [e2]
        exact h
    | false =>
      refine Ev.step (f := fun k => trunnionref16_Next.l0 k l (i : Int) ((n : Int) + 1)) (fun k => ?_) ?_
      · simp only [trunnionref16_Next.l2]
        rw [if_pos (by omega), if_neg (by simp), w64 (by omega) (by omega)]
      · simpa using hR
/-- Behind the number: its bytes are held against those that stand there. -/
theorem end_ev (l : List Int) (i n : Nat) (c : Int) (R : Int × Int) (hl : l.length ≤ 6000) (hn : 1 ≤ n) (hi : i + n ≤ l.length) (hR : Ev (fun k => trunnionref16_Next.l0 k l (i : Int) ((n : Int) + 1)) R) :
    Ev (fun k => (trunnionref16_Put.f k c).bind fun t121 => (trunnionref16_Next.l2 k l (i : Int) (n : Int) c t121 ((t121.length : Int) == (n : Int)) 0)) (if (encL c).length = n ∧ eqR (encL c) l i 0 n = true then (c, (i : Int) + (n : Int)) else R) := by
  refine Ev.bind (put_ev c) ?_
  by_cases h : (encL c).length = n
  · have hb : (((encL c).length : Int) == (n : Int)) = true := by rw [h]; simp
    rw [hb]
    have := l2_ev (encL c) l i n c R hl h hi hR n 0 (by omega) true
    simpa [h] using this
  · have hb : (((encL c).length : Int) == (n : Int)) = false := by simp; omega
    rw [hb, if_neg (fun hh => h hh.1)]
    refine Ev.step (f := fun k => trunnionref16_Next.l0 k l (i : Int) ((n : Int) + 1)) (fun k => ?_) hR
    simp only [trunnionref16_Next.l2]
    rw [if_pos (by omega), if_neg (by simp), w64 (by omega) (by omega)]

/-- The number that so many bytes would make. -/
def num1 (l : List Int) (i : Nat) : Int := rd l (i : Int)
def num2 (l : List Int) (i : Nat) : Int := 64 * (rd l (i : Int) - 192) + rd l ((i + 1 : Nat) : Int) - 128
def num3 (l : List Int) (i : Nat) : Int := 64 * (64 * (rd l (i : Int) - 224) + rd l ((i + 1 : Nat) : Int) - 128) + rd l ((i + 2 : Nat) : Int) - 128
def num4 (l : List Int) (i : Nat) : Int := 64 * (64 * (64 * (rd l (i : Int) - 240) + rd l ((i + 1 : Nat) : Int) - 128) + rd l ((i + 2 : Nat) : Int) - 128) + rd l ((i + 3 : Nat) : Int) - 128
theorem l1_step (l : List Int) (hok : okB l) (i n j : Nat) (v : Int) (k : Nat) (hl : l.length ≤ 6000) (hj : j < n) (hi : i + n ≤ l.length) (v0 : -1000000000000 ≤ v) (v1 : v ≤ 1000000000000) :
    trunnionref16_Next.l1 (k + 1) l (i : Int) (n : Int) v (j : Int) = trunnionref16_Next.l1 k l (i : Int) (n : Int) (64 * v + rd l ((i + j : Nat) : Int) - 128) ((j + 1 : Nat) : Int) := by
  have hr := rd_range hok ((i + j : Nat) : Int)
  have e : wrap64 ((i : Int) + (j : Int)) = ((i + j : Nat) : Int) := by rw [w64 (by omega) (by omega)]; omega
  have e1 : wrap64 ((j : Int) + 1) = ((j + 1 : Nat) : Int) := by rw [w64 (by omega) (by omega)]; omega
  simp only [trunnionref16_Next.l1]
  rw [if_pos (by omega), e, if_pos (by omega), if_pos (by omega), e1, w64 (n := 64 * v) (by omega) (by omega), w64 (n := rd l ((i + j : Nat) : Int)) (by omega) (by omega), w64 (n := 64 * v + rd l ((i + j : Nat) : Int)) (by omega) (by omega), w64 (n := 64 * v + rd l ((i + j : Nat) : Int) - 128) (by omega) (by omega)]
theorem l1_end (l : List Int) (i n : Nat) (v : Int) (k : Nat) : trunnionref16_Next.l1 (k + 1) l (i : Int) (n : Int) v (n : Int) = (trunnionref16_Put.f k v).bind fun t121 => (trunnionref16_Next.l2 k l (i : Int) (n : Int) v t121 ((t121.length : Int) == (n : Int)) 0) := by
  simp only [trunnionref16_Next.l1]
  rw [if_neg (by omega)]
/-- Up to the number's loop. -/
theorem l0_head (l : List Int) (hok : okB l) (i n : Nat) (k : Nat) (hl : l.length ≤ 6000) (hn : 1 ≤ n) (hn4 : n ≤ 4) (hi : i + n ≤ l.length) :
    trunnionref16_Next.l0 (k + 5) l (i : Int) (n : Int) = trunnionref16_Next.l1 k l (i : Int) (n : Int) (rd l (i : Int) - (if n = 2 then 192 else if n = 3 then 224 else if n = 4 then 240 else 0)) ((1 : Nat) : Int) := by
  have hr := rd_range hok (i : Int)
  have e : wrap64 ((i : Int) + (n : Int)) = (i : Int) + (n : Int) := w64 (by omega) (by omega)
  simp only [trunnionref16_Next.l0]
  rw [if_pos (by omega), e, decide_eq_true (by omega)]
  simp only [trunnionref16_Next.j2]
  rw [if_pos trivial, if_pos (by omega), if_pos (by omega), w64 (n := rd l (i : Int)) (by omega) (by omega)]
  by_cases c2 : n = 2
  · subst c2
    rw [if_pos (by decide), w64 (n := rd l (i : Int) - 192) (by omega) (by omega)]
    simp [trunnionref16_Next.j3, trunnionref16_Next.j4, trunnionref16_Next.j5]
  rw [if_neg (by omega)]
  simp only [trunnionref16_Next.j3]
  by_cases c3 : n = 3
  · subst c3
    rw [if_pos (by decide), w64 (n := rd l (i : Int) - 224) (by omega) (by omega)]
    simp [trunnionref16_Next.j4, trunnionref16_Next.j5]
  rw [if_neg (by omega)]
  simp only [trunnionref16_Next.j4]
  by_cases c4 : n = 4
  · subst c4
    rw [if_pos (by decide), w64 (n := rd l (i : Int) - 240) (by omega) (by omega)]
    simp [trunnionref16_Next.j5]
  rw [if_neg (by omega)]
  simp only [trunnionref16_Next.j5]
  rw [if_neg c2, if_neg c3, if_neg c4, Int.sub_zero]
  rfl
/-- No more can be tried. -/
theorem l0_none (l : List Int) (i n : Nat) (hl : l.length ≤ 6000) (hn : n ≤ 5) (hi : i < l.length) (h : n > 4 ∨ i + n > l.length) : Ev (fun k => trunnionref16_Next.l0 k l (i : Int) (n : Int)) (-1, 0) := by
  refine ⟨2, fun k hk => ?_⟩
  obtain ⟨k, rfl⟩ : ∃ m, k = m + 2 := ⟨k - 2, by omega⟩
  have e : wrap64 ((i : Int) + (n : Int)) = (i : Int) + (n : Int) := w64 (by omega) (by omega)
  simp only [trunnionref16_Next.l0]
  by_cases c : (n : Int) ≤ 4
  · rw [if_pos c, e, decide_eq_false (by omega)]
    simp [trunnionref16_Next.j2]
  · rw [if_neg c]
    simp [trunnionref16_Next.j2]
theorem try4 (l : List Int) (hok : okB l) (i : Nat) (hl : l.length ≤ 6000) (hi : i + 4 ≤ l.length) : Ev (fun k => trunnionref16_Next.l0 k l (i : Int) ((4 : Nat) : Int)) (if (encL (num4 l i)).length = 4 ∧ eqR (encL (num4 l i)) l i 0 4 = true then (num4 l i, (i : Int) + ((4 : Nat) : Int)) else (-1, 0)) := by
  have r0 := rd_range hok (i : Int)
  have r1 := rd_range hok ((i + 1 : Nat) : Int)
  have r2 := rd_range hok ((i + 2 : Nat) : Int)
  have h := end_ev l i 4 (num4 l i) (-1, 0) hl (by decide) hi (l0_none l i 5 hl (by decide) (by omega) (.inl (by decide)))
  obtain ⟨K, hK⟩ := h
  refine ⟨K + 9, fun k hk => ?_⟩
  obtain ⟨k, rfl⟩ : ∃ m, k = m + 4 + 5 := ⟨k - 9, by omega⟩
  show trunnionref16_Next.l0 (k + 4 + 5) l (i : Int) ((4 : Nat) : Int) = _
  rw [l0_head l hok i 4 (k + 4) hl (by decide) (by decide) hi, if_neg (by decide), if_neg (by decide), if_pos rfl]
  rw [l1_step l hok i 4 1 _ (k + 3) hl (by decide) hi (by omega) (by omega), l1_step l hok i 4 2 _ (k + 2) hl (by decide) hi (by omega) (by omega), l1_step l hok i 4 3 _ (k + 1) hl (by decide) hi (by omega) (by omega), l1_end l i 4]
  exact hK k (by omega)
theorem try3 (l : List Int) (hok : okB l) (i : Nat) (hl : l.length ≤ 6000) (hi : i + 3 ≤ l.length) (R : Int × Int) (hR : Ev (fun k => trunnionref16_Next.l0 k l (i : Int) ((4 : Nat) : Int)) R) : Ev (fun k => trunnionref16_Next.l0 k l (i : Int) ((3 : Nat) : Int)) (if (encL (num3 l i)).length = 3 ∧ eqR (encL (num3 l i)) l i 0 3 = true then (num3 l i, (i : Int) + ((3 : Nat) : Int)) else R) := by
  have r0 := rd_range hok (i : Int)
  have r1 := rd_range hok ((i + 1 : Nat) : Int)
  have h := end_ev l i 3 (num3 l i) R hl (by decide) hi hR
  obtain ⟨K, hK⟩ := h
  refine ⟨K + 8, fun k hk => ?_⟩
  obtain ⟨k, rfl⟩ : ∃ m, k = m + 3 + 5 := ⟨k - 8, by omega⟩
  show trunnionref16_Next.l0 (k + 3 + 5) l (i : Int) ((3 : Nat) : Int) = _
  rw [l0_head l hok i 3 (k + 3) hl (by decide) (by decide) hi, if_neg (by decide), if_pos rfl]
  rw [l1_step l hok i 3 1 _ (k + 2) hl (by decide) hi (by omega) (by omega), l1_step l hok i 3 2 _ (k + 1) hl (by decide) hi (by omega) (by omega), l1_end l i 3]
  exact hK k (by omega)
theorem try2 (l : List Int) (hok : okB l) (i : Nat) (hl : l.length ≤ 6000) (hi : i + 2 ≤ l.length) (R : Int × Int) (hR : Ev (fun k => trunnionref16_Next.l0 k l (i : Int) ((3 : Nat) : Int)) R) : Ev (fun k => trunnionref16_Next.l0 k l (i : Int) ((2 : Nat) : Int)) (if (encL (num2 l i)).length = 2 ∧ eqR (encL (num2 l i)) l i 0 2 = true then (num2 l i, (i : Int) + ((2 : Nat) : Int)) else R) := by
  have r0 := rd_range hok (i : Int)
  have h := end_ev l i 2 (num2 l i) R hl (by decide) hi hR
  obtain ⟨K, hK⟩ := h
  refine ⟨K + 7, fun k hk => ?_⟩
  obtain ⟨k, rfl⟩ : ∃ m, k = m + 2 + 5 := ⟨k - 7, by omega⟩
  show trunnionref16_Next.l0 (k + 2 + 5) l (i : Int) ((2 : Nat) : Int) = _
  rw [l0_head l hok i 2 (k + 2) hl (by decide) (by decide) hi, if_pos rfl]
  rw [l1_step l hok i 2 1 _ (k + 1) hl (by decide) hi (by omega) (by omega), l1_end l i 2]
  exact hK k (by omega)
theorem try1 (l : List Int) (hok : okB l) (i : Nat) (hl : l.length ≤ 6000) (hi : i + 1 ≤ l.length) (R : Int × Int) (hR : Ev (fun k => trunnionref16_Next.l0 k l (i : Int) ((2 : Nat) : Int)) R) : Ev (fun k => trunnionref16_Next.l0 k l (i : Int) ((1 : Nat) : Int)) (if (encL (num1 l i)).length = 1 ∧ eqR (encL (num1 l i)) l i 0 1 = true then (num1 l i, (i : Int) + ((1 : Nat) : Int)) else R) := by
  have h := end_ev l i 1 (num1 l i) R hl (by decide) hi hR
  obtain ⟨K, hK⟩ := h
  refine ⟨K + 6, fun k hk => ?_⟩
  obtain ⟨k, rfl⟩ : ∃ m, k = m + 1 + 5 := ⟨k - 6, by omega⟩
  show trunnionref16_Next.l0 (k + 1 + 5) l (i : Int) ((1 : Nat) : Int) = _
  rw [l0_head l hok i 1 (k + 1) hl (by decide) (by decide) hi, if_neg (by decide), if_neg (by decide), if_neg (by decide), Int.sub_zero, l1_end l i 1]
  exact hK k (by omega)
end Go.Proofs.Ytjhdnlgbboboiaa.Utf
