/- The walks of link.Match, of the closures of link.All and of link.All: each answers what a plain function says. -/
import Derived.Test.YtkpjdkmggbelfaaPLinkMatchesx2
import Derived.Test.YtkpjdkmggbelfaaQ29x0
namespace Go.Proofs.Ytkpjdkmggbelfaa.Link
open Go.RowKit Go.Proofs.YtkpjdkmggbelfaaW.PrintWords Go.Proofs.YtkpjdkmggbelfaaW.PrintLast Go.Proofs.YtkpjdkmggbelfaaW.PrintMore Go.Proofs.Ytkpjdkmggbelfaa.PLinkMatches
set_option linter.unusedVariables false
set_option linter.unusedSimpArgs false

theorem w64 {n : Int} (h0 : -9223372036854775808 ≤ n) (h1 : n < 9223372036854775808) : wrap64 n = n := by unfold wrap64; omega
theorem equal_from (l m : List Int) (hl : l.length ≤ 9223372036854775807) (he : l.length = m.length) (d : Nat) : ∀ i : Nat, i + d = l.length → ∀ k, d + 1 ≤ k → slices_Equal_byte_byte.l0 k l m (l.length : Int) (i : Int) = some (decide (l.drop i = m.drop i)) := by
  induction d with
  | zero =>
    intro i hi k hk
    obtain ⟨k, rfl⟩ : ∃ k', k = k' + 1 := ⟨k - 1, by omega⟩
    simp only [slices_Equal_byte_byte.l0]
    rw [if_neg (by omega), List.drop_eq_nil_of_le (by omega), List.drop_eq_nil_of_le (by omega)]
    rfl
  | succ d ih =>
    intro i hi k hk
    obtain ⟨k, rfl⟩ : ∃ k', k = k' + 1 := ⟨k - 1, by omega⟩
    simp only [slices_Equal_byte_byte.l0]
    have h1 : i < l.length := by omega
    have h2 : i < m.length := by omega
    have e3 : (l.drop i = m.drop i) ↔ (l[i] = m[i] ∧ l.drop (i + 1) = m.drop (i + 1)) := by
      rw [List.drop_eq_getElem_cons h1, List.drop_eq_getElem_cons h2, List.cons.injEq]
    rw [if_pos (by omega), if_pos (by omega), if_pos (by omega), if_pos (by omega)]
    have e1 : rd l (i : Int) = l[i] := by simp [rd, List.getD_eq_getElem?_getD, List.getElem?_eq_getElem h1]
    have e2 : rd m (i : Int) = m[i] := by simp [rd, List.getD_eq_getElem?_getD, List.getElem?_eq_getElem h2]
    rw [e1, e2, w64 (by omega) (by omega)]
    by_cases c : l[i] = m[i]
    · rw [if_pos c]
      have := ih (i + 1) (by omega) k (by omega)
      rw [show ((i : Int) + 1) = ((i + 1 : Nat) : Int) by omega, this]
      exact congrArg some (decide_eq_decide.mpr ⟨fun h => e3.mpr ⟨c, h⟩, fun h => (e3.mp h).2⟩)
    · rw [if_neg c]
      exact congrArg some (decide_eq_false (fun h => c (e3.mp h).1)).symm
theorem equal_is (l m : List Int) (hl : l.length ≤ 9223372036854775807) (k : Nat) (hk : l.length + 1 ≤ k) : slices_Equal_byte_byte.f k l m = some (decide (l = m)) := by
  unfold slices_Equal_byte_byte.f
  by_cases c : (l.length : Int) = (m.length : Int)
  · rw [if_pos c]
    have := equal_from l m hl (by omega) l.length 0 (by omega) k hk
    simpa using this
  · rw [if_neg c]
    have : l ≠ m := fun h => c (by rw [h])
    simp [this]
def matchP (a0_0 : Int) (l0_1 l0_2 : List Int) (a0_3 a0_4 : Int) (a0_5 : Bool) (a0_6 : Int) (a0_7 : Bool) (a1_0 : Int) (l1_1 l1_2 : List Int) (a1_3 a1_4 : Int) (a1_5 : Bool) (a1_6 : Int) (a1_7 : Bool) : Bool :=
  if a0_0 = a1_0 then (if a0_0 = 0 then decide (l0_1 = l1_1) && decide (l0_2 = l1_2) else if a0_0 = 1 ∨ a0_0 = 2 then decide (a0_3 ≤ a1_3) && (if a0_5 = true then a1_5 && decide (a1_4 ≤ a0_4) else true) else if a0_0 = 3 then (a0_6 == a1_6 && (a0_7 == a1_7)) else false) else false
theorem match_is (a0_0 : Int) (l0_1 l0_2 : List Int) (a0_3 a0_4 : Int) (a0_5 : Bool) (a0_6 : Int) (a0_7 : Bool) (a1_0 : Int) (l1_1 l1_2 : List Int) (a1_3 a1_4 : Int) (a1_5 : Bool) (a1_6 : Int) (a1_7 : Bool) (h1 : l0_1.length ≤ 9223372036854775807) (h2 : l0_2.length ≤ 9223372036854775807) (k : Nat) (hk : l0_1.length + l0_2.length + 2 ≤ k) :
    link_Match.f k a0_0 l0_1 l0_2 a0_3 a0_4 a0_5 a0_6 a0_7 a1_0 l1_1 l1_2 a1_3 a1_4 a1_5 a1_6 a1_7 = some (matchP a0_0 l0_1 l0_2 a0_3 a0_4 a0_5 a0_6 a0_7 a1_0 l1_1 l1_2 a1_3 a1_4 a1_5 a1_6 a1_7) := by
  obtain ⟨k, rfl⟩ : ∃ k', k = k' + 1 := ⟨k - 1, by omega⟩
  unfold link_Match.f matchP
  by_cases c0 : a0_0 = a1_0
  · rw [if_pos c0, if_pos c0]
    by_cases c1 : a0_0 = 0
    · rw [if_pos c1, if_pos c1, equal_is l0_1 l1_1 h1 _ (by omega)]
      simp only [Option.bind_some]
      by_cases c2 : l0_1 = l1_1
      · rw [decide_eq_true c2, if_pos rfl, equal_is l0_2 l1_2 h2 _ (by omega)]
        simp
      · rw [decide_eq_false c2]
        simp
    · rw [if_neg c1, if_neg c1]
      simp only [link_Match.j0]
      unfold link_within.f
      by_cases c2 : a0_0 = 1
      · rw [if_pos c2, if_pos (Or.inl c2), if_pos (by rw [c2]; rfl)]
        by_cases c3 : a0_3 ≤ a1_3
        · rw [if_pos c3, decide_eq_true c3]
          cases a0_5 <;> cases a1_5 <;> simp
        · rw [if_neg c3, decide_eq_false c3]
          simp
      · rw [if_neg c2]
        by_cases c4 : a0_0 = 2
        · rw [if_pos (Or.inr c4), if_pos (by rw [c4]; rfl)]
          by_cases c3 : a0_3 ≤ a1_3
          · rw [if_pos c3, decide_eq_true c3]
            cases a0_5 <;> cases a1_5 <;> simp
          · rw [if_neg c3, decide_eq_false c3]
            simp
        · rw [if_neg (show ¬ (a0_0 = 1 ∨ a0_0 = 2) by omega), if_neg (show ¬ (a0_0 == 2) = true by simpa using c4)]
          by_cases c5 : a0_0 = 3
          · rw [if_pos c5, if_pos c5]
          · rw [if_neg c5, if_neg c5]
  · rw [if_neg c0, if_neg c0]
theorem Match_calls (a0_0 : Int) (A0_1 : Option Addr) (c0_1 : Nat) (l0_1 : List Int) (A0_2 : Option Addr) (c0_2 : Nat) (l0_2 : List Int) (a0_3 : Int) (a0_4 : Int) (a0_5 : Bool) (a0_6 : Int) (a0_7 : Bool) (a1_0 : Int) (A1_1 : Option Addr) (c1_1 : Nat) (l1_1 : List Int) (A1_2 : Option Addr) (c1_2 : Nat) (l1_2 : List Int) (a1_3 : Int) (a1_4 : Int) (a1_5 : Bool) (a1_6 : Int) (a1_7 : Bool) (w : World) (hr0_1 : Kd.C (Kd.int .u8) w A0_1 l0_1.length l0_1) (hc0_1 : l0_1.length ≤ c0_1) (hr0_2 : Kd.C (Kd.int .u8) w A0_2 l0_2.length l0_2) (hc0_2 : l0_2.length ≤ c0_2) (hr1_1 : Kd.C (Kd.int .u8) w A1_1 l1_1.length l1_1) (hc1_1 : l1_1.length ≤ c1_1) (hr1_2 : Kd.C (Kd.int .u8) w A1_2 l1_2.length l1_2) (hc1_2 : l1_2.length ≤ c1_2) : 
    Calls Try.prog 17 #[.agg #[.int .i64 a0_0, .slice A0_1 l0_1.length c0_1, .slice A0_2 l0_2.length c0_2, .int .u32 a0_3, .int .u32 a0_4, .bool a0_5, .int .u8 a0_6, .bool a0_7], .agg #[.int .i64 a1_0, .slice A1_1 l1_1.length c1_1, .slice A1_2 l1_2.length c1_2, .int .u32 a1_3, .int .u32 a1_4, .bool a1_5, .int .u8 a1_6, .bool a1_7]] w fun e w' => e = .returned (.bool (matchP a0_0 l0_1 l0_2 a0_3 a0_4 a0_5 a0_6 a0_7 a1_0 l1_1 l1_2 a1_3 a1_4 a1_5 a1_6 a1_7)) ∧ Below w.heap.size w w' := by
  have H := link_Match.calls (l0_1.length + l0_2.length + 2) a0_0 A0_1 c0_1 l0_1 A0_2 c0_2 l0_2 a0_3 a0_4 a0_5 a0_6 a0_7 a1_0 A1_1 c1_1 l1_1 A1_2 c1_2 l1_2 a1_3 a1_4 a1_5 a1_6 a1_7 _ w hr0_1 hc0_1 hr0_2 hc0_2 hr1_1 hc1_1 hr1_2 hc1_2 (match_is a0_0 l0_1 l0_2 a0_3 a0_4 a0_5 a0_6 a0_7 a1_0 l1_1 l1_2 a1_3 a1_4 a1_5 a1_6 a1_7 (Kd.C_max hr0_1) (Kd.C_max hr0_2) _ (Nat.le_refl _))
  exact H
def mt (x y : Q29.S41) : Bool := matchP x.f0 x.f1.f0 x.f1.f1 x.f2.f0 x.f2.f1 x.f2.f2 x.f3.f0 x.f3.f1 y.f0 y.f1.f0 y.f1.f1 y.f2.f0 y.f2.f1 y.f2.f2 y.f3.f0 y.f3.f1
end Go.Proofs.Ytkpjdkmggbelfaa.Link
