/- Bytes below 128 are a name with as many characters; a name that is cut in the midst of a character is none, on either side: the plain law. -/
import Derived.Test.YtjhdnlgbboboiaaQ16x9
import Derived.Test.YtjhdnlgbboboiaaUtfCut
namespace Go.Proofs.Ytjhdnlgbboboiaa.Pure
open Go.RowKit Go.Proofs.Ytjhdnlgbboboiaa.Q16 Go.Proofs.YtjhdnlgbboboiaaW.PrintWords Go.Proofs.YtjhdnlgbboboiaaW.PrintLast Go.Proofs.YtjhdnlgbboboiaaW.PrintMore Go.Proofs.Ytjhdnlgbboboiaa.Utf Go.Proofs.Ytjhdnlgbboboiaa.Leb
set_option linter.unusedVariables false

theorem okB_wfc {l : List Int} (h : ∀ x ∈ l, (Lit.int .u8 x).wf = true) : okB l := by
  intro x hx
  have := h x hx
  simp only [Lit.wf, Bool.and_eq_true, decide_eq_true_eq] at this
  have h1 : IntKind.u8.min = 0 := rfl
  have h2 : IntKind.u8.max = 255 := rfl
  rw [h1, h2] at this
  omega
theorem valid_is (l : List Int) (hok : okB l) (hl : l.length ≤ 1000000) : utf_Valid.f l = some (isName l) := by
  unfold utf_Valid.f utf_Count.f
  rw [countSF_is l hok hl]
  unfold isName
  cases uCnt l.length l <;> rfl
theorem j3_ok (k : Nat) (b : List Int) (a : Int) (hok : okB b) (hl : b.length ≤ 200) (hv : isName b = true) (a0 : 0 ≤ a) (a1 : a < b.length) : trunnionlaw16_UtfCuts.j3 (k + 1) b a false = some true := by
  obtain ⟨i, rfl⟩ := Int.eq_ofNat_of_zero_le a0
  have h := cut_law b.length b i hok (Nat.le_refl _) hv (by omega)
  have h1 := valid_is (b.take i) (okB_take' hok i) (by rw [List.length_take]; omega)
  have h2 := valid_is (b.drop i) (okB_drop hok i) (by rw [List.length_drop]; omega)
  have hr := rd_range hok (i : Int)
  simp only [trunnionlaw16_UtfCuts.j3, Int.toNat_natCast]
  rw [if_neg (by simp), if_pos (by omega), if_pos (by omega), h1, h2, h.1, h.2]
  have hle : (i : Int) ≤ (b.length : Int) := by omega
  simp only [Option.bind_some]
  by_cases c : rd b (i : Int) ≥ 128
  · have e : decide (cont (rd b (i : Int))) = decide (rd b (i : Int) < 192) := by
      by_cases c5 : rd b (i : Int) < 192
      · rw [decide_eq_true c5, decide_eq_true (show cont (rd b (i : Int)) from ⟨c, c5⟩)]
      · rw [decide_eq_false c5, decide_eq_false (fun h : cont (rd b (i : Int)) => c5 h.2)]
    rw [if_pos c, if_pos hle, e]
    simp
  · have e : decide (cont (rd b (i : Int))) = false := decide_eq_false (by unfold cont; omega)
    rw [if_neg c, if_pos hle, e]
    simp
theorem j2_ok (k : Nat) (b : List Int) (a : Int) (hok : okB b) (hl : b.length ≤ 200) (a0 : 0 ≤ a) : trunnionlaw16_UtfCuts.j2 (k + 2) b a false = some true := by
  simp only [trunnionlaw16_UtfCuts.j2]
  rw [if_neg (by simp), valid_is b hok (by omega)]
  simp only [Option.bind_some]
  have ht : trunnionlaw16_UtfCuts.j3 (k + 1) b a true = some true := by simp [trunnionlaw16_UtfCuts.j3]
  by_cases c : isName b = true
  · rw [if_pos c]
    by_cases c2 : a ≥ (b.length : Int)
    · rw [decide_eq_true c2]; exact ht
    · rw [decide_eq_false c2]; exact j3_ok k b a hok hl c a0 (by omega)
  · rw [if_neg c]; exact ht
theorem l0_ok (p b : List Int) (a n : Int) (ok : Bool) (hok : okB b) (hl : b.length ≤ 200) (hp : p.length ≤ 200) (a0 : 0 ≤ a) (hlow : (∀ x ∈ p, x < 128) → ok = true ∧ n = (p.length : Int)) (d : Nat) :
    ∀ (k i : Nat) (low : Bool), p.length - i = d → i ≤ p.length → d + 3 ≤ k → (low = true → ∀ j, j < i → rd p (j : Int) < 128) → trunnionlaw16_UtfCuts.l0 k p b a n ok low p (p.length : Int) (i : Int) = some true := by
  induction d with
  | zero =>
    intro k i low hd hi hk hlo
    obtain ⟨k, rfl⟩ : ∃ m, k = m + 3 := ⟨k - 3, by omega⟩
    simp only [trunnionlaw16_UtfCuts.l0]
    rw [if_neg (by omega)]
    have hj := j2_ok k b a hok hl a0
    cases low with
    | true =>
      have hall : ∀ x ∈ p, x < 128 := by
        intro x hx
        obtain ⟨j, hj, rfl⟩ := List.getElem_of_mem hx
        have := hlo rfl j (by omega)
        simpa [rd, hj] using this
      obtain ⟨rfl, rfl⟩ := hlow hall
      rw [if_pos rfl, if_pos rfl]
      simpa using hj
    | false =>
      rw [if_neg (by simp)]
      exact hj
  | succ d ih =>
    intro k i low hd hi hk hlo
    obtain ⟨k, rfl⟩ : ∃ m, k = m + 1 := ⟨k - 1, by omega⟩
    have e : wrap64 ((i : Int) + 1) = ((i + 1 : Nat) : Int) := by rw [Utf.w64 (by omega) (by omega)]; omega
    simp only [trunnionlaw16_UtfCuts.l0]
    rw [if_pos (by omega), if_pos (by omega), if_pos (by omega), e]
    cases low with
    | true =>
      rw [if_pos rfl]
      refine ih k (i + 1) _ (by omega) (by omega) (by omega) (fun h j hj => ?_)
      by_cases c : j = i
      · subst c
        simpa using h
      · exact hlo rfl j (by omega)
    | false =>
      rw [if_neg (by simp)]
      exact ih k (i + 1) false (by omega) (by omega) (by omega) (fun h => by cases h)
theorem UtfCuts : trunnionlaw16_UtfCuts.Pure := by
  intro p b a hm hl hw hm2 hl2 hw2 ha
  have okp := okB_wfc hw
  have okb := okB_wfc hw2
  have ht : ∀ k, trunnionlaw16_UtfCuts.j0 (k + 1) p b a true = some true := fun k => by simp [trunnionlaw16_UtfCuts.j0]
  refine ⟨1000, ?_⟩
  unfold trunnionlaw16_UtfCuts.f trunnionlaw16_awake.f
  simp only [Option.bind_some, if_true]
  by_cases c1 : (p.length : Int) > 200
  · rw [if_pos c1]; exact ht _
  rw [if_neg c1]
  by_cases c2 : (b.length : Int) > 200
  · rw [if_pos c2]; exact ht _
  rw [if_neg c2]
  by_cases c3 : a < 0
  · rw [decide_eq_true c3]; exact ht _
  rw [decide_eq_false c3]
  simp only [trunnionlaw16_UtfCuts.j0]
  rw [if_neg (by simp)]
  unfold utf_Count.f
  rw [countSF_is p okp (by omega)]
  simp only [Option.bind_some]
  refine l0_ok p b a _ _ okb (by omega) (by omega) (by omega) (fun hlow => ?_) p.length 999 0 true (by omega) (by omega) (by omega) (fun _ j hj => by omega)
  rw [low_count p.length p okp (Nat.le_refl _) hlow]
  exact ⟨rfl, rfl⟩
end Go.Proofs.Ytjhdnlgbboboiaa.Pure
