/- The walk of the reference's Match: it answers what a plain function says; of bytes, link.Match's own. -/
import Derived.Test.YtkpjdkmggbelfaaPLinkMatchesx3
import Derived.Test.YtkpjdkmggbelfaaLinkAwake
namespace Go.Proofs.Ytkpjdkmggbelfaa.Link
open Go.RowKit Go.Proofs.YtkpjdkmggbelfaaW.PrintWords Go.Proofs.YtkpjdkmggbelfaaW.PrintLast Go.Proofs.YtkpjdkmggbelfaaW.PrintMore Go.Proofs.Ytkpjdkmggbelfaa.PLinkMatches
set_option linter.unusedVariables false
set_option linter.unusedSimpArgs false

def refP (a0_0 : Int) (l0_1 l0_2 : List Int) (a0_3 a0_4 : Int) (a0_5 : Bool) (a0_6 : Int) (a0_7 : Bool) (a1_0 : Int) (l1_1 l1_2 : List Int) (a1_3 a1_4 : Int) (a1_5 : Bool) (a1_6 : Int) (a1_7 : Bool) : Bool :=
  if a0_0 = a1_0 then (if a0_0 < 0 ∨ a0_0 > 3 then false else if a0_0 = 0 then (decide ((strOfNums l0_1).toList = (strOfNums l1_1).toList) && decide ((strOfNums l0_2).toList = (strOfNums l1_2).toList)) else if a0_0 = 3 then (decide (a0_6 = a1_6) && (a0_7 == a1_7)) else if a1_3 < a0_3 then false else if a0_5 = true then a1_5 && decide (a1_4 ≤ a0_4) else true) else false
theorem refM_is (a0_0 : Int) (l0_1 l0_2 : List Int) (a0_3 a0_4 : Int) (a0_5 : Bool) (a0_6 : Int) (a0_7 : Bool) (a1_0 : Int) (l1_1 l1_2 : List Int) (a1_3 a1_4 : Int) (a1_5 : Bool) (a1_6 : Int) (a1_7 : Bool) (k : Nat) :
    trunnionref29_Match.f (k + 1) a0_0 l0_1 l0_2 a0_3 a0_4 a0_5 a0_6 a0_7 a1_0 l1_1 l1_2 a1_3 a1_4 a1_5 a1_6 a1_7 = some (refP a0_0 l0_1 l0_2 a0_3 a0_4 a0_5 a0_6 a0_7 a1_0 l1_1 l1_2 a1_3 a1_4 a1_5 a1_6 a1_7) := by
  have tail : ¬ (a0_0 < 0 ∨ a0_0 > 3) → trunnionref29_Match.j0 (k + 1) false a0_0 l0_1 l0_2 a0_3 a0_4 a0_5 a0_6 a0_7 a1_0 l1_1 l1_2 a1_3 a1_4 a1_5 a1_6 a1_7 = some (if a0_0 = 0 then (decide ((strOfNums l0_1).toList = (strOfNums l1_1).toList) && decide ((strOfNums l0_2).toList = (strOfNums l1_2).toList)) else if a0_0 = 3 then (decide (a0_6 = a1_6) && (a0_7 == a1_7)) else if a1_3 < a0_3 then false else if a0_5 = true then a1_5 && decide (a1_4 ≤ a0_4) else true) := by
    intro _
    simp only [trunnionref29_Match.j0]
    rw [if_neg (by decide)]
    by_cases c1 : a0_0 = 0
    · rw [if_pos c1, if_pos c1]
      by_cases c2 : (strOfNums l0_1).toList = (strOfNums l1_1).toList
      · rw [if_pos c2, decide_eq_true c2, Bool.true_and]
        congr 1
        rw [Bool.eq_iff_iff]
        simp
      · rw [if_neg c2, decide_eq_false c2, Bool.false_and]
    · rw [if_neg c1, if_neg c1]
      by_cases c3 : a0_0 = 3
      · rw [if_pos c3, if_pos c3]
        by_cases c4 : a0_6 = a1_6
        · rw [if_pos c4, decide_eq_true c4, Bool.true_and]
        · rw [if_neg c4, decide_eq_false c4, Bool.false_and]
      · rw [if_neg c3, if_neg c3]
        by_cases c5 : a1_3 < a0_3
        · rw [if_pos c5, if_pos c5]
        · rw [if_neg c5, if_neg c5]
          cases a0_5 <;> cases a1_5 <;> simp
  unfold trunnionref29_Match.f refP
  by_cases c0 : a0_0 = a1_0
  · rw [if_pos c0, if_pos c0]
    by_cases c1 : a0_0 < 0
    · rw [if_pos c1, if_pos (Or.inl c1)]
      simp only [trunnionref29_Match.j0]
      rfl
    · rw [if_neg c1]
      by_cases c2 : a0_0 > 3
      · rw [if_pos (Or.inr c2), decide_eq_true c2]
        simp only [trunnionref29_Match.j0]
        rfl
      · have c3 : ¬ (a0_0 < 0 ∨ a0_0 > 3) := by omega
        rw [if_neg c3, decide_eq_false c2]
        exact tail c3
  · rw [if_neg c0, if_neg c0]
    simp only [trunnionref29_Match.j0]
    rfl
theorem refM_calls (a0_0 : Int) (A0_1 : Option Addr) (c0_1 : Nat) (l0_1 : List Int) (A0_2 : Option Addr) (c0_2 : Nat) (l0_2 : List Int) (a0_3 : Int) (a0_4 : Int) (a0_5 : Bool) (a0_6 : Int) (a0_7 : Bool) (a1_0 : Int) (A1_1 : Option Addr) (c1_1 : Nat) (l1_1 : List Int) (A1_2 : Option Addr) (c1_2 : Nat) (l1_2 : List Int) (a1_3 : Int) (a1_4 : Int) (a1_5 : Bool) (a1_6 : Int) (a1_7 : Bool) (w : World) (hr0_1 : Kd.C (Kd.int .u8) w A0_1 l0_1.length l0_1) (hc0_1 : l0_1.length ≤ c0_1) (hr0_2 : Kd.C (Kd.int .u8) w A0_2 l0_2.length l0_2) (hc0_2 : l0_2.length ≤ c0_2) (hr1_1 : Kd.C (Kd.int .u8) w A1_1 l1_1.length l1_1) (hc1_1 : l1_1.length ≤ c1_1) (hr1_2 : Kd.C (Kd.int .u8) w A1_2 l1_2.length l1_2) (hc1_2 : l1_2.length ≤ c1_2) :
    Calls Try.prog 18 #[.agg #[.int .i64 a0_0, .slice A0_1 l0_1.length c0_1, .slice A0_2 l0_2.length c0_2, .int .u32 a0_3, .int .u32 a0_4, .bool a0_5, .int .u8 a0_6, .bool a0_7], .agg #[.int .i64 a1_0, .slice A1_1 l1_1.length c1_1, .slice A1_2 l1_2.length c1_2, .int .u32 a1_3, .int .u32 a1_4, .bool a1_5, .int .u8 a1_6, .bool a1_7]] w fun e w' => e = .returned (.bool (refP a0_0 l0_1 l0_2 a0_3 a0_4 a0_5 a0_6 a0_7 a1_0 l1_1 l1_2 a1_3 a1_4 a1_5 a1_6 a1_7)) ∧ Below w.heap.size w w' := by
  exact trunnionref29_Match.calls 1 a0_0 A0_1 c0_1 l0_1 A0_2 c0_2 l0_2 a0_3 a0_4 a0_5 a0_6 a0_7 a1_0 A1_1 c1_1 l1_1 A1_2 c1_2 l1_2 a1_3 a1_4 a1_5 a1_6 a1_7 _ w hr0_1 hc0_1 hr0_2 hc0_2 hr1_1 hc1_1 hr1_2 hc1_2 (refM_is a0_0 l0_1 l0_2 a0_3 a0_4 a0_5 a0_6 a0_7 a1_0 l1_1 l1_2 a1_3 a1_4 a1_5 a1_6 a1_7 0)
def okB (l : List Int) : Prop := ∀ x ∈ l, 0 ≤ x ∧ x < 256
theorem str_inj {l m : List Int} (hl : okB l) (hm : okB m) (h : (strOfNums l).toList = (strOfNums m).toList) : l = m := by
  have h1 : ∀ n : List Int, (strOfNums n).toList = n.map (fun x => UInt8.ofNat x.toNat) := fun n => by simp [strOfNums]
  rw [h1, h1] at h
  have h2 : ∀ n : List Int, okB n → (n.map (fun x => UInt8.ofNat x.toNat)).map (fun b => (b.toNat : Int)) = n := by
    intro n hn
    rw [List.map_map]
    conv => rhs; rw [← List.map_id n]
    apply List.map_congr_left
    intro x hx
    have := hn x hx
    simp only [Function.comp, UInt8.toNat_ofNat', id]
    omega
  rw [← h2 l hl, ← h2 m hm, h]
theorem ref_match (a0_0 : Int) (l0_1 l0_2 : List Int) (a0_3 a0_4 : Int) (a0_5 : Bool) (a0_6 : Int) (a0_7 : Bool) (a1_0 : Int) (l1_1 l1_2 : List Int) (a1_3 a1_4 : Int) (a1_5 : Bool) (a1_6 : Int) (a1_7 : Bool) (h1 : okB l0_1) (h2 : okB l0_2) (h3 : okB l1_1) (h4 : okB l1_2) :
    refP a0_0 l0_1 l0_2 a0_3 a0_4 a0_5 a0_6 a0_7 a1_0 l1_1 l1_2 a1_3 a1_4 a1_5 a1_6 a1_7 = matchP a0_0 l0_1 l0_2 a0_3 a0_4 a0_5 a0_6 a0_7 a1_0 l1_1 l1_2 a1_3 a1_4 a1_5 a1_6 a1_7 := by
  have e1 : decide ((strOfNums l0_1).toList = (strOfNums l1_1).toList) = decide (l0_1 = l1_1) := decide_eq_decide.mpr ⟨str_inj h1 h3, fun h => by rw [h]⟩
  have e2 : decide ((strOfNums l0_2).toList = (strOfNums l1_2).toList) = decide (l0_2 = l1_2) := decide_eq_decide.mpr ⟨str_inj h2 h4, fun h => by rw [h]⟩
  unfold refP matchP
  rw [e1, e2]
  by_cases c0 : a0_0 = a1_0
  · rw [if_pos c0, if_pos c0]
    by_cases c1 : a0_0 = 0
    · rw [if_neg (by omega), if_pos c1, if_pos c1]
    · rw [if_neg c1]
      by_cases c2 : a0_0 = 1 ∨ a0_0 = 2
      · rw [if_neg (show ¬ (a0_0 < 0 ∨ a0_0 > 3) by omega), if_neg c1, if_neg (show ¬ a0_0 = 3 by omega), if_pos c2]
        by_cases c3 : a1_3 < a0_3
        · rw [if_pos c3, decide_eq_false (show ¬ a0_3 ≤ a1_3 by omega), Bool.false_and]
        · rw [if_neg c3, decide_eq_true (show a0_3 ≤ a1_3 by omega), Bool.true_and]
      · rw [if_neg c2, if_neg c1]
        by_cases c3 : a0_0 = 3
        · rw [if_neg (show ¬ (a0_0 < 0 ∨ a0_0 > 3) by omega), if_pos c3, if_pos c3]
          congr 1
        · rw [if_pos (show (a0_0 < 0 ∨ a0_0 > 3) by omega), if_neg c3]
  · rw [if_neg c0, if_neg c0]
end Go.Proofs.Ytkpjdkmggbelfaa.Link
