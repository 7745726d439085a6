/- The two tests of an answer are the same. -/
import Derived.Test.YtkpjdkmggbelfaaPHostFitsx2
namespace Go.Proofs.Ytkpjdkmggbelfaa.Host
open Go.RowKit Go.Proofs.YtkpjdkmggbelfaaW.PrintWords Go.Proofs.YtkpjdkmggbelfaaW.PrintLast Go.Proofs.YtkpjdkmggbelfaaW.PrintMore Go.Proofs.Ytkpjdkmggbelfaa.PHostFits
set_option linter.unusedVariables false
set_option linter.unusedSimpArgs false
def wide32 (b : Int) : Bool := b == 127 || b == 125
theorem width_is (b : Int) (k : Nat) : ∃ r, trunnionref26_Width.f (k + 1) b = some r ∧ (r = 32 ↔ wide32 b = true) := by
  unfold trunnionref26_Width.f wide32
  by_cases h1 : b = 127
  · subst h1
    exact ⟨32, by simp [trunnionref26_Width.j0], by simp⟩
  · rw [if_neg h1]
    by_cases h2 : b = 125
    · subst h2
      exact ⟨32, by simp [trunnionref26_Width.j0], by simp⟩
    · have e2 : (b == 125) = false := beq_eq_false_iff_ne.2 h2
      have e1 : (b == 127) = false := beq_eq_false_iff_ne.2 h1
      by_cases h3 : b = 126
      · exact ⟨64, by simp [e2, trunnionref26_Width.j0, h3], by simp [e1, e2]⟩
      by_cases h4 : b = 124
      · exact ⟨64, by simp [e2, trunnionref26_Width.j0, h4], by simp [e1, e2]⟩
      · exact ⟨0, by simp [e2, trunnionref26_Width.j0, h3, h4], by simp [e1, e2]⟩
def bad (v l : List Int) (i : Int) : Bool := wide32 (rd l i) && decide (rd v i ≥ 4294967296)
def fitsFrom (v l : List Int) : Nat → Nat → Bool
  | 0, _ => true
  | d + 1, i => if bad v l (i : Int) = true then false else fitsFrom v l d (i + 1)
theorem fitsFrom_succ (v l : List Int) (d i : Nat) : fitsFrom v l (d + 1) i = if bad v l (i : Int) = true then false else fitsFrom v l d (i + 1) := rfl
theorem own_from (v l p : List Int) (hl : v.length = l.length) (hv : ∀ i : Int, 0 ≤ rd v i) (hm : l.length ≤ 1000) (d : Nat) : ∀ (i k : Nat), i + d = v.length → d < k → host_Fits.l0 k v (v.length : Int) (i : Int) p l = some (fitsFrom v l d i) := by
  induction d with
  | zero =>
    intro i k hi hk
    obtain ⟨k, rfl⟩ : ∃ m, k = m + 1 := ⟨k - 1, by omega⟩
    simp only [host_Fits.l0]
    rw [if_neg (by omega)]
    rfl
  | succ d ih =>
    intro i k hi hk
    obtain ⟨k, rfl⟩ : ∃ m, k = m + 1 := ⟨k - 1, by omega⟩
    have e3 : wrap64 ((i : Int) + 1) = ((i + 1 : Nat) : Int) := by unfold wrap64; omega
    have h0 := hv (i : Int)
    simp only [host_Fits.l0]
    rw [if_pos (by omega), if_pos (by omega), if_pos (by omega), if_pos (by omega), e3, ih (i + 1) k (by omega) (by omega)]
    rw [fitsFrom_succ]
    generalize fitsFrom v l d (i + 1) = z
    unfold bad wide32
    by_cases h1 : rd l (i : Int) = 127
    · rw [if_pos h1]
      by_cases h2 : rd v (i : Int) / 4294967296 = 0
      · have : ¬ rd v (i : Int) ≥ 4294967296 := by omega
        rw [if_pos h2]
        simp [h1, this]
      · have : rd v (i : Int) ≥ 4294967296 := by omega
        rw [if_neg h2]
        simp [h1, this]
    · rw [if_neg h1]
      by_cases h3 : rd l (i : Int) = 125
      · rw [if_pos h3]
        by_cases h2 : rd v (i : Int) / 4294967296 = 0
        · have : ¬ rd v (i : Int) ≥ 4294967296 := by omega
          rw [if_pos h2]
          simp [h3, this]
        · have : rd v (i : Int) ≥ 4294967296 := by omega
          rw [if_neg h2]
          simp [h3, this]
      · rw [if_neg h3]
        have e1 : (rd l (i : Int) == 127) = false := beq_eq_false_iff_ne.2 h1
        have e2 : (rd l (i : Int) == 125) = false := beq_eq_false_iff_ne.2 h3
        simp [e1, e2]
theorem ref_from (v l : List Int) (b : Bool) (hl : v.length = l.length) (hm : l.length ≤ 1000) (d : Nat) : ∀ (i k : Nat), i + d = l.length → d + 1 < k → trunnionref32_Fits.l0 k l (i : Int) b v = some (fitsFrom v l d i) := by
  induction d with
  | zero =>
    intro i k hi hk
    obtain ⟨k, rfl⟩ : ∃ m, k = m + 1 := ⟨k - 1, by omega⟩
    simp only [trunnionref32_Fits.l0]
    rw [if_neg (by omega)]
    rfl
  | succ d ih =>
    intro i k hi hk
    obtain ⟨k, rfl⟩ : ∃ m, k = m + 1 := ⟨k - 1, by omega⟩
    obtain ⟨k, rfl⟩ : ∃ m, k = m + 1 := ⟨k - 1, by omega⟩
    have e3 : wrap64 ((i : Int) + 1) = ((i + 1 : Nat) : Int) := by unfold wrap64; omega
    obtain ⟨r, hr, hr2⟩ := width_is (rd l (i : Int)) k
    simp only [trunnionref32_Fits.l0]
    rw [if_pos (by omega), if_pos (by omega), hr, e3]
    simp only [Option.bind_some]
    have hih := ih (i + 1) (k + 1) (by omega) (by omega)
    simp only [trunnionref32_Fits.l0] at hih
    rw [hih]
    rw [fitsFrom_succ]
    generalize fitsFrom v l d (i + 1) = z
    unfold bad
    by_cases h1 : r = 32
    · rw [if_pos h1, if_pos (by omega), hr2.1 h1]
      by_cases h2 : rd v (i : Int) ≥ 4294967296
      · rw [if_pos h2]
        simp [h2]
      · rw [if_neg h2]
        simp [h2]
    · have hw : wide32 (rd l (i : Int)) = false := by
        cases hx : wide32 (rd l (i : Int)) with
        | false => rfl
        | true => exact absurd (hr2.2 hx) h1
      rw [if_neg h1, hw]
      simp
/-- Both say the same. -/
theorem fits_same (p l : List Int) (b : Bool) (v : List Int) (hv : ∀ x ∈ v, 0 ≤ x) (hm : l.length ≤ 1000) : ∃ k r, host_Fits.f k p l b v = some r ∧ trunnionref32_Fits.f k l b v = some r := by
  have hv2 : ∀ i : Int, 0 ≤ rd v i := by
    intro i
    unfold rd
    by_cases hi : i.toNat < v.length
    · rw [List.getD_eq_getElem?_getD, List.getElem?_eq_getElem hi]
      exact hv _ (List.getElem_mem hi)
    · rw [List.getD_eq_getElem?_getD, List.getElem?_eq_none (by omega)]
      simp
  cases b with
  | true => exact ⟨0, true, by simp [host_Fits.f], by simp [trunnionref32_Fits.f]⟩
  | false =>
    by_cases hl : v.length = l.length
    · refine ⟨v.length + 2, fitsFrom v l v.length 0, ?_, ?_⟩
      · unfold host_Fits.f
        rw [if_neg (by simp), if_pos (by omega)]
        exact own_from v l p hl hv2 hm v.length 0 _ (by omega) (by omega)
      · unfold trunnionref32_Fits.f
        rw [if_neg (by simp), if_pos (by omega)]
        exact ref_from v l false hl hm v.length 0 _ (by omega) (by omega)
    · refine ⟨0, false, ?_, ?_⟩
      · unfold host_Fits.f
        rw [if_neg (by simp), if_neg (by omega)]
      · unfold trunnionref32_Fits.f
        rw [if_neg (by simp), if_neg (by omega)]
end Go.Proofs.Ytkpjdkmggbelfaa.Host
