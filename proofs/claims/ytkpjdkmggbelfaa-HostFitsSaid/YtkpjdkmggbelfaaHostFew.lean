/- That the test of how much the steps hold ends. -/
import Derived.Test.YtkpjdkmggbelfaaPHostPlaysx1
namespace Go.Proofs.Ytkpjdkmggbelfaa.Host
open Go.RowKit Go.Proofs.YtkpjdkmggbelfaaW.PrintWords Go.Proofs.YtkpjdkmggbelfaaW.PrintLast Go.Proofs.YtkpjdkmggbelfaaW.PrintMore Go.Proofs.Ytkpjdkmggbelfaa.PHostPlays
set_option linter.unusedVariables false
set_option linter.unusedSimpArgs false
def Ends (g : Nat → Option Bool) : Prop := ∃ r, Ev g r
theorem Ends.to {g f : Nat → Option Bool} (h : ∀ k, g (k + 1) = f k) (k : Ends f) : Ends g := ⟨k.choose, Ev.step h k.choose_spec⟩
theorem Ends.now (r : Bool) {g : Nat → Option Bool} (h : ∀ k, g (k + 1) = some r) : Ends g := ⟨r, Ev.step h (Ev.now r)⟩
theorem w64 {n : Int} (h0 : -9223372036854775808 ≤ n) (h1 : n < 9223372036854775808) : wrap64 n = n := by unfold wrap64; omega
section
variable (l : List S84) (most : Int) (hl : l.length ≤ 9223372036854775807) (hin : ∀ x ∈ l, x.f1.f0.length ≤ 9223372036854775807 ∧ x.f2.f6.length ≤ 9223372036854775807)
theorem few2 (i : Nat) (hnext : Ends (fun k => trunnionlaw32_few.l0 k l most l (l.length : Int) (wrap64 ((i : Int) + 1)))) (cs : List S156) (hc : cs.length ≤ 9223372036854775807) (d : Nat) : ∀ (j : Nat) (n : Int), j + d = cs.length → Ends (fun k => trunnionlaw32_few.l2 k l most n l (l.length : Int) (i : Int) cs (cs.length : Int) (j : Int)) := by
  induction d with
  | zero =>
    intro j n hj
    by_cases c : n > 100
    · exact Ends.now false fun k => by simp only [trunnionlaw32_few.l2]; rw [if_neg (by omega), if_pos c]
    · exact Ends.to (fun k => by simp only [trunnionlaw32_few.l2]; rw [if_neg (by omega), if_neg c]) hnext
  | succ d ih =>
    intro j n hj
    refine Ends.to (fun k => ?_) (ih (j + 1) (wrap64 (n + (wrap64 ((((rd_T156 cs (j : Int)).f1).length : Int) + (((rd_T156 cs (j : Int)).f0).size : Int))))) (by omega))
    simp only [trunnionlaw32_few.l2]
    rw [if_pos (by omega), if_pos (by omega), if_pos (by omega), w64 (n := (j : Int) + 1) (by omega) (by omega)]
    rfl
theorem few1 (i : Nat) (hnext : Ends (fun k => trunnionlaw32_few.l0 k l most l (l.length : Int) (wrap64 ((i : Int) + 1)))) (an : List S109) (ha : an.length ≤ 9223372036854775807) (y0 : Int) (y1 : List S109) (y2 : List Bool) (y3 : Int) (y4 : List Int) (y5 y6 y7 y8 : Int) (cs : List S156) (hc : cs.length ≤ 9223372036854775807) (d : Nat) :
    ∀ (j : Nat) (n : Int), j + d = an.length → Ends (fun k => trunnionlaw32_few.l1 k l most n l (l.length : Int) (i : Int) an (an.length : Int) (j : Int) y0 y1 y2 y3 y4 y5 y6 y7 y8 cs) := by
  induction d with
  | zero =>
    intro j n hj
    exact Ends.to (fun k => by simp only [trunnionlaw32_few.l1]; rw [if_neg (by omega)]; rfl) (few2 l most i hnext cs hc cs.length 0 n (by omega))
  | succ d ih =>
    intro j n hj
    refine Ends.to (fun k => ?_) (ih (j + 1) (wrap64 (n + (((rd_T109 an (j : Int)).f1).length : Int))) (by omega))
    simp only [trunnionlaw32_few.l1]
    rw [if_pos (by omega), if_pos (by omega), if_pos (by omega), w64 (n := (j : Int) + 1) (by omega) (by omega)]
    rfl
include hl hin
theorem few0 (d : Nat) : ∀ i : Nat, i + d = l.length → Ends (fun k => trunnionlaw32_few.l0 k l most l (l.length : Int) (i : Int)) := by
  induction d with
  | zero => intro i hi; exact Ends.now _ fun k => by simp only [trunnionlaw32_few.l0]; rw [if_neg (by omega)]
  | succ d ih =>
    intro i hi
    have hlt : i < l.length := by omega
    have er : rd_T84 l (i : Int) = l[i] := by simp [rd_T84, List.getD_eq_getElem?_getD, List.getElem?_eq_getElem hlt]
    have hx := hin _ (List.getElem_mem hlt)
    rw [← er] at hx
    have hnext := ih (i + 1) (by omega)
    rw [show ((i + 1 : Nat) : Int) = wrap64 ((i : Int) + 1) from by rw [w64 (by omega) (by omega)]; rfl] at hnext
    refine Ends.to (fun k => ?_) (few1 l most i hnext (rd_T84 l (i : Int)).f1.f0 hx.1 ((rd_T84 l (i : Int)).f0) ((rd_T84 l (i : Int)).f1.f0) ((rd_T84 l (i : Int)).f1.f1) ((rd_T84 l (i : Int)).f2.f0) ((rd_T84 l (i : Int)).f2.f1) ((rd_T84 l (i : Int)).f2.f2) ((rd_T84 l (i : Int)).f2.f3) ((rd_T84 l (i : Int)).f2.f4) ((rd_T84 l (i : Int)).f2.f5) ((rd_T84 l (i : Int)).f2.f6) hx.2 (rd_T84 l (i : Int)).f1.f0.length 0 (wrap64 ((wrap64 ((((rd_T84 l (i : Int)).f1.f0).length : Int) + (((rd_T84 l (i : Int)).f1.f1).length : Int))) + (((rd_T84 l (i : Int)).f2.f6).length : Int))) (by omega))
    simp only [trunnionlaw32_few.l0]
    rw [if_pos (by omega), if_pos (by omega), if_pos (by omega)]
    rfl
theorem few_ends : ∃ k r, trunnionlaw32_few.f k l most = some r := by
  obtain ⟨r, hr⟩ := few0 l most hl hin l.length 0 (by omega)
  obtain ⟨k, hk⟩ := hr
  exact ⟨k, r, hk k (Nat.le_refl _)⟩
end
end Go.Proofs.Ytkpjdkmggbelfaa.Host
