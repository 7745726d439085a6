/- Of any bytes, at any place, the character is the document's, or there is none; and so is how many there are: the plain law. -/
import Derived.Test.YtjhdnlgbboboiaaQ16x8
import Derived.Test.YtjhdnlgbboboiaaUtfCnt
namespace Go.Proofs.Ytjhdnlgbboboiaa.Pure
open Go.RowKit Go.Proofs.Ytjhdnlgbboboiaa.Q16 Go.Proofs.YtjhdnlgbboboiaaW.PrintWords Go.Proofs.YtjhdnlgbboboiaaW.PrintLast Go.Proofs.YtjhdnlgbboboiaaW.PrintMore Go.Proofs.Ytjhdnlgbboboiaa.Utf Go.Proofs.Ytjhdnlgbboboiaa.Leb
set_option linter.unusedVariables false

theorem okB_wf {l : List Int} (h : ∀ x ∈ l, (Lit.int .u8 x).wf = true) : okB l := by
  intro x hx
  have := h x hx
  simp only [Lit.wf, Bool.and_eq_true, decide_eq_true_eq] at this
  have h1 : IntKind.u8.min = 0 := rfl
  have h2 : IntKind.u8.max = 255 := rfl
  rw [h1, h2] at this
  omega
theorem reads_count (l : List Int) (hok : okB l) (hl : l.length ≤ 1000) : Ev (fun k => trunnionlaw16_UtfReads.j0 k l false) true := by
  obtain ⟨K, hK⟩ := count_ref l hok (by omega) l.length 0 0 (by omega) (by omega) (by omega)
  refine ⟨K + 1, fun k hk => ?_⟩
  obtain ⟨k, rfl⟩ : ∃ m, k = m + 1 := ⟨k - 1, by omega⟩
  have h1 := hK k (by omega)
  rw [List.drop_zero] at h1
  have h2 := countSF_is l hok (by omega)
  simp only [trunnionlaw16_UtfReads.j0]
  rw [if_neg (by simp)]
  unfold utf_Valid.f utf_Count.f trunnionref16_Count.f
  rw [h2]
  simp only [Option.bind_some]
  have h3 : trunnionref16_Count.l0 k l 0 0 = _ := h1
  rw [h3]
  cases he : uCnt l.length l with
  | none => simp [mx]
  | some n =>
    have := uCnt_range _ _ _ he
    simp only [Option.bind_some, Int.zero_add]
    have e1 : mx n 0 = n := by unfold mx; split <;> omega
    have e2 : decide (n ≥ 0) = true := decide_eq_true this.1
    rw [e1, e2]
    simp
theorem UtfReads : trunnionlaw16_UtfReads.Pure := by
  intro l a hm hl hw ha
  have hok := okB_wf hw
  by_cases c0 : (l.length : Int) > 1000
  · refine ⟨1, ?_⟩
    unfold trunnionlaw16_UtfReads.f trunnionlaw16_awake.f
    simp only [Option.bind_some, if_true]
    rw [if_pos c0]
  · obtain ⟨K1, hK1⟩ := reads_count l hok (by omega)
    have hN : utf_Next.f l a = some (nextF l a) := by unfold utf_Next.f nextSF; rw [if_pos (by omega)]
    by_cases c : a < 0 ∨ a ≥ l.length
    · obtain ⟨K2, hK2⟩ := next_out l a c
      refine ⟨K1 + K2, ?_⟩
      have h2 : trunnionref16_Next.f (K1 + K2) l a = _ := hK2 (K1 + K2) (by omega)
      have h1 : trunnionlaw16_UtfReads.j0 (K1 + K2) l false = _ := hK1 (K1 + K2) (by omega)
      have e : nextF l a = (0, 0, false) := if_pos c
      unfold trunnionlaw16_UtfReads.f trunnionlaw16_awake.f
      simp only [Option.bind_some, if_true]
      rw [if_neg c0, hN, e, h2]
      simp [h1]
    · obtain ⟨i, rfl⟩ := Int.eq_ofNat_of_zero_le (show 0 ≤ a by omega)
      obtain ⟨K2, hK2⟩ := next_ref l hok i (by omega) (by omega)
      refine ⟨K1 + K2, ?_⟩
      have h2 : trunnionref16_Next.f (K1 + K2) l (i : Int) = _ := hK2 (K1 + K2) (by omega)
      have h1 : trunnionlaw16_UtfReads.j0 (K1 + K2) l false = _ := hK1 (K1 + K2) (by omega)
      have e := nextF_is l hok i (by omega) (by omega)
      unfold nextR at h2
      unfold trunnionlaw16_UtfReads.f trunnionlaw16_awake.f
      simp only [Option.bind_some, if_true]
      rw [if_neg c0, hN, e, h2]
      cases he : uDec (l.drop i) with
      | none => simp [h1]
      | some q =>
        obtain ⟨c', n⟩ := q
        have hlen : (l.drop i).length = l.length - i := List.length_drop
        have hw := uDec_width (okB_drop hok i) he (by omega)
        have e1 : wrap64 c' = c' := w64 (by omega) (by omega)
        have e2 : (true != decide (c' ≥ 0)) = false := by rw [decide_eq_true hw.2.2.1]; rfl
        simp only [Option.bind_some]
        rw [e1, e2]
        simp [h1]
end Go.Proofs.Ytjhdnlgbboboiaa.Pure
