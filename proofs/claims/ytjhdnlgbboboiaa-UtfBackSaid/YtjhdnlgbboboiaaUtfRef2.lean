/- The plain law of the document's characters, joined: its character at a place is the one at the front; its count. -/
import Derived.Test.YtjhdnlgbboboiaaUtfRef
namespace Go.Proofs.Ytjhdnlgbboboiaa.Utf
open Go.RowKit Go.Proofs.YtjhdnlgbboboiaaW.PrintWords Go.Proofs.Ytjhdnlgbboboiaa.Leb Go.Proofs.Ytjhdnlgbboboiaa.Q16
set_option linter.unusedVariables false

theorem cond1 (l : List Int) (i : Nat) (c : Int) : ((encL c).length = 1 ∧ eqR (encL c) l i 0 1 = true) ↔ (0 ≤ c ∧ c < 128 ∧ c = rd l (i : Int)) := by
  unfold encL
  split
  · simp; omega
  · split
    · simp [eqR, rd]; omega
    · split
      · simp; omega
      · split
        · simp; omega
        · simp; omega
theorem cond2 (l : List Int) (i : Nat) (c : Int) : ((encL c).length = 2 ∧ eqR (encL c) l i 0 2 = true) ↔ (128 ≤ c ∧ c < 2048 ∧ 192 + c / 64 = rd l (i : Int) ∧ 128 + c % 64 = rd l ((i + 1 : Nat) : Int)) := by
  unfold encL
  split
  · simp; omega
  · split
    · simp; omega
    · split
      · simp [eqR, rd]; omega
      · split
        · simp; omega
        · simp; omega
theorem cond3 (l : List Int) (i : Nat) (c : Int) : ((encL c).length = 3 ∧ eqR (encL c) l i 0 3 = true) ↔ (2048 ≤ c ∧ c < 65536 ∧ ¬ (55296 ≤ c ∧ c ≤ 57343) ∧ 224 + c / 4096 = rd l (i : Int) ∧ 128 + c / 64 % 64 = rd l ((i + 1 : Nat) : Int) ∧ 128 + c % 64 = rd l ((i + 2 : Nat) : Int)) := by
  unfold encL
  split
  · simp; omega
  · split
    · simp; omega
    · split
      · simp; omega
      · split
        · simp [eqR, rd]; omega
        · simp; omega
theorem cond4 (l : List Int) (i : Nat) (c : Int) : ((encL c).length = 4 ∧ eqR (encL c) l i 0 4 = true) ↔ (65536 ≤ c ∧ c ≤ 1114111 ∧ 240 + c / 262144 = rd l (i : Int) ∧ 128 + c / 4096 % 64 = rd l ((i + 1 : Nat) : Int) ∧ 128 + c / 64 % 64 = rd l ((i + 2 : Nat) : Int) ∧ 128 + c % 64 = rd l ((i + 3 : Nat) : Int)) := by
  unfold encL
  split
  · simp; omega
  · split
    · simp; omega
    · split
      · simp; omega
      · split
        · simp; omega
        · simp [eqR, rd]; omega
def nextR (l : List Int) (i : Nat) : Int × Int := match uDec (l.drop i) with | some (c, n) => (c, (i : Int) + (n : Int)) | none => (-1, 0)
theorem next_ref (l : List Int) (hok : okB l) (i : Nat) (hl : l.length ≤ 6000) (hi : i < l.length) : Ev (fun k => trunnionref16_Next.f k l (i : Int)) (nextR l i) := by
  have z0 := rd_range hok (i : Int)
  have z1 := rd_range hok ((i + 1 : Nat) : Int)
  have z2 := rd_range hok ((i + 2 : Nat) : Int)
  have z3 := rd_range hok ((i + 3 : Nat) : Int)
  have r0 := rd_drop' l i 0
  have r1 := rd_drop' l i 1
  have r2 := rd_drop' l i 2
  have r3 := rd_drop' l i 3
  rw [show ((0 : Nat) : Int) = 0 from rfl, Nat.add_zero] at r0
  rw [show ((1 : Nat) : Int) = 1 from rfl] at r1
  rw [show ((2 : Nat) : Int) = 2 from rfl] at r2
  rw [show ((3 : Nat) : Int) = 3 from rfl] at r3
  have hu : nextR l i = (match sDec (rd l (i : Int)) (rd l ((i + 1 : Nat) : Int)) (rd l ((i + 2 : Nat) : Int)) (rd l ((i + 3 : Nat) : Int)) (l.length - i) with | some (c, n) => (c, (i : Int) + (n : Int)) | none => (-1, 0)) := by
    unfold nextR uDec
    rw [r0, r1, r2, r3, List.length_drop]
  have q1 := cond1 l i (num1 l i)
  have q2 := cond2 l i (num2 l i)
  have q3 := cond3 l i (num3 l i)
  have q4 := cond4 l i (num4 l i)
  have R4 : ∃ R4, Ev (fun k => trunnionref16_Next.l0 k l (i : Int) ((4 : Nat) : Int)) R4 ∧ R4 = if i + 4 ≤ l.length ∧ ((encL (num4 l i)).length = 4 ∧ eqR (encL (num4 l i)) l i 0 4 = true) then (num4 l i, (i : Int) + ((4 : Nat) : Int)) else (-1, 0) := by
    by_cases h : i + 4 ≤ l.length
    · refine ⟨_, try4 l hok i hl h, ?_⟩
      simp only [h, true_and]
    · refine ⟨_, l0_none l i 4 hl (by decide) hi (.inr (by omega)), ?_⟩
      rw [if_neg (fun hh => h hh.1)]
  obtain ⟨R4, e4, v4⟩ := R4
  have R3 : ∃ R3, Ev (fun k => trunnionref16_Next.l0 k l (i : Int) ((3 : Nat) : Int)) R3 ∧ R3 = if i + 3 ≤ l.length then (if ((encL (num3 l i)).length = 3 ∧ eqR (encL (num3 l i)) l i 0 3 = true) then (num3 l i, (i : Int) + ((3 : Nat) : Int)) else R4) else (-1, 0) := by
    by_cases h : i + 3 ≤ l.length
    · refine ⟨_, try3 l hok i hl h R4 e4, ?_⟩
      rw [if_pos h]
    · refine ⟨_, l0_none l i 3 hl (by decide) hi (.inr (by omega)), ?_⟩
      rw [if_neg h]
  obtain ⟨R3, e3, v3⟩ := R3
  have R2 : ∃ R2, Ev (fun k => trunnionref16_Next.l0 k l (i : Int) ((2 : Nat) : Int)) R2 ∧ R2 = if i + 2 ≤ l.length then (if ((encL (num2 l i)).length = 2 ∧ eqR (encL (num2 l i)) l i 0 2 = true) then (num2 l i, (i : Int) + ((2 : Nat) : Int)) else R3) else (-1, 0) := by
    by_cases h : i + 2 ≤ l.length
    · refine ⟨_, try2 l hok i hl h R3 e3, ?_⟩
      rw [if_pos h]
    · refine ⟨_, l0_none l i 2 hl (by decide) hi (.inr (by omega)), ?_⟩
      rw [if_neg h]
  obtain ⟨R2, e2, v2⟩ := R2
  have e1 := try1 l hok i hl (by omega) R2 e2
  have hfin : (if (encL (num1 l i)).length = 1 ∧ eqR (encL (num1 l i)) l i 0 1 = true then (num1 l i, (i : Int) + ((1 : Nat) : Int)) else R2) = nextR l i := by
    rw [hu, v2, v3, v4]
    clear hu v2 v3 v4 e1 e2 e3 e4 r0 r1 r2 r3
    simp only [q1, q2, q3, q4]
    unfold num1 num2 num3 num4
    clear q1 q2 q3 q4 hok
    generalize rd l (i : Int) = x0 at *
    generalize rd l ((i + 1 : Nat) : Int) = x1 at *
    generalize rd l ((i + 2 : Nat) : Int) = x2 at *
    generalize rd l ((i + 3 : Nat) : Int) = x3 at *
    obtain ⟨n, hn⟩ : ∃ n, l.length = i + n := ⟨l.length - i, by omega⟩
    rw [hn, show i + n - i = n from by omega]
    have fin : ∀ o : Option (Int × Nat), sDec x0 x1 x2 x3 n = o → ∀ v : Int × Int, (match o with | some (c, n) => (c, (i : Int) + (n : Int)) | none => (-1, 0)) = v → (match sDec x0 x1 x2 x3 n with | some (c, n) => (c, (i : Int) + (n : Int)) | none => (-1, 0)) = v := by
      intro o h1 v h2
      rw [h1]
      exact h2
    symm
    by_cases c1 : x0 < 128
    · refine fin (some (x0, 1)) (by unfold sDec; rw [if_pos c1]) _ ?_
      rw [if_pos (by omega)]
    rw [if_neg (by omega)]
    by_cases c2 : 192 ≤ x0 ∧ x0 < 224 ∧ 2 ≤ n ∧ (128 ≤ x1 ∧ x1 < 192) ∧ 128 ≤ (x0 - 192) * 64 + (x1 - 128)
    · refine fin (some ((x0 - 192) * 64 + (x1 - 128), 2)) (by unfold sDec cont; rw [if_neg c1, if_pos c2]) _ ?_
      rw [if_pos (by omega), if_pos (by omega)]
      simp only
      congr 1
      omega
    by_cases d2 : i + 2 ≤ i + n
    · rw [if_pos d2, if_neg (by omega)]
      by_cases c3 : 224 ≤ x0 ∧ x0 < 240 ∧ 3 ≤ n ∧ (128 ≤ x1 ∧ x1 < 192) ∧ (128 ≤ x2 ∧ x2 < 192) ∧ 2048 ≤ (x0 - 224) * 4096 + (x1 - 128) * 64 + (x2 - 128) ∧ ((x0 - 224) * 4096 + (x1 - 128) * 64 + (x2 - 128) < 55296 ∨ 57344 ≤ (x0 - 224) * 4096 + (x1 - 128) * 64 + (x2 - 128))
      · refine fin (some ((x0 - 224) * 4096 + (x1 - 128) * 64 + (x2 - 128), 3)) (by unfold sDec cont; rw [if_neg c1, if_neg c2, if_pos c3]) _ ?_
        rw [if_pos (by omega), if_pos (by omega)]
        simp only
        congr 1
        omega
      by_cases d3 : i + 3 ≤ i + n
      · rw [if_pos d3, if_neg (by omega)]
        by_cases c4 : 240 ≤ x0 ∧ x0 < 248 ∧ 4 ≤ n ∧ (128 ≤ x1 ∧ x1 < 192) ∧ (128 ≤ x2 ∧ x2 < 192) ∧ (128 ≤ x3 ∧ x3 < 192) ∧ 65536 ≤ (x0 - 240) * 262144 + (x1 - 128) * 4096 + (x2 - 128) * 64 + (x3 - 128) ∧ (x0 - 240) * 262144 + (x1 - 128) * 4096 + (x2 - 128) * 64 + (x3 - 128) ≤ 1114111
        · refine fin (some ((x0 - 240) * 262144 + (x1 - 128) * 4096 + (x2 - 128) * 64 + (x3 - 128), 4)) (by unfold sDec cont; rw [if_neg c1, if_neg c2, if_neg c3, if_pos c4]) _ ?_
          rw [if_pos (by omega)]
          simp only
          congr 1
          omega
        · refine fin none (by unfold sDec cont; rw [if_neg c1, if_neg c2, if_neg c3, if_neg c4]) _ ?_
          rw [if_neg (by omega)]
      · refine fin none (by unfold sDec cont; rw [if_neg c1, if_neg c2, if_neg c3, if_neg (by omega)]) _ ?_
        rw [if_neg d3]
    · refine fin none (by unfold sDec cont; rw [if_neg c1, if_neg c2, if_neg (by omega), if_neg (by omega)]) _ ?_
      rw [if_neg d2]
  rw [hfin] at e1
  obtain ⟨K, hK⟩ := e1
  refine ⟨K + 1, fun k hk => ?_⟩
  obtain ⟨k, rfl⟩ : ∃ m, k = m + 1 := ⟨k - 1, by omega⟩
  show trunnionref16_Next.f (k + 1) l (i : Int) = _
  unfold trunnionref16_Next.f
  rw [if_neg (by omega), decide_eq_false (by omega)]
  simp only [trunnionref16_Next.j0]
  rw [if_neg (by simp)]
  exact hK k (by omega)
theorem next_out (l : List Int) (a : Int) (h : a < 0 ∨ a ≥ l.length) : Ev (fun k => trunnionref16_Next.f k l a) (-1, 0) := by
  refine ⟨1, fun k hk => ?_⟩
  obtain ⟨k, rfl⟩ : ∃ m, k = m + 1 := ⟨k - 1, by omega⟩
  show trunnionref16_Next.f (k + 1) l a = _
  unfold trunnionref16_Next.f
  split
  · simp [trunnionref16_Next.j0]
  · rw [decide_eq_true (by omega)]
    simp [trunnionref16_Next.j0]
end Go.Proofs.Ytjhdnlgbboboiaa.Utf
