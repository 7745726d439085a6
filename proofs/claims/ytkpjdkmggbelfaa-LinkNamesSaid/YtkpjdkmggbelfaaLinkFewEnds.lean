/- That the tests of a module's size end. -/
import Derived.Test.YtkpjdkmggbelfaaPLinkNamesx5
namespace Go.Proofs.Ytkpjdkmggbelfaa.Names
open Go.RowKit Go.Proofs.YtkpjdkmggbelfaaW.PrintWords Go.Proofs.YtkpjdkmggbelfaaW.PrintLast Go.Proofs.YtkpjdkmggbelfaaW.PrintMore Go.Proofs.Ytkpjdkmggbelfaa.PLinkNames
set_option linter.unusedVariables false
set_option linter.unusedSimpArgs false
def Ends (g : Nat → Option Bool) : Prop := ∃ r, Ev g r
theorem Ends.to {g f : Nat → Option Bool} (h : ∀ k, g (k + 1) = f k) (k : Ends f) : Ends g := ⟨k.choose, Ev.step h k.choose_spec⟩
theorem Ends.now (r : Bool) {g : Nat → Option Bool} (h : ∀ k, g (k + 1) = some r) : Ends g := ⟨r, Ev.step h (Ev.now r)⟩
theorem Ends.some (r : Bool) {g : Nat → Option Bool} (h : ∀ k, g k = some r) : Ends g := ⟨r, Ev.congr h (Ev.now r)⟩
theorem Ends.congr {g f : Nat → Option Bool} (h : ∀ k, g k = f k) (k : Ends f) : Ends g := ⟨k.choose, Ev.congr h k.choose_spec⟩
theorem Ends.and {c g f : Nat → Option Bool} (hc : Ends c) (hf : Ends f) (h : ∀ k, g k = (c k).bind fun t => if t = true then f k else Option.some false) : Ends g := by
  obtain ⟨r, hr⟩ := hc
  refine Ends.congr h ?_
  cases r with
  | false => exact ⟨false, Ev.bind hr (Ev.congr (fun _ => rfl) (Ev.now false))⟩
  | true =>
    obtain ⟨q, hq⟩ := hf
    exact ⟨q, Ev.bind hr (Ev.congr (fun _ => if_pos rfl) hq)⟩
theorem Ends.andTo {c g f : Nat → Option Bool} (hc : Ends c) (hf : Ends f) (h : ∀ k, g (k + 1) = (c k).bind fun t => if t = true then f k else Option.some false) : Ends g :=
  Ends.to (f := fun k => (c k).bind fun t => if t = true then f k else Option.some false) h (Ends.and hc hf fun _ => rfl)
theorem w64 {n : Int} (h0 : -9223372036854775808 ≤ n) (h1 : n < 9223372036854775808) : wrap64 n = n := by unfold wrap64; omega
theorem code_from (l : List S186) (hl : l.length ≤ 9223372036854775807) (d : Nat) : ∀ (i : Nat) (x : Int), i + d = l.length → Ends (fun k => trunnionlaw21_code.l0 k x l (l.length : Int) (i : Int)) := by
  induction d with
  | zero => intro i x hi; exact Ends.now _ fun k => by simp only [trunnionlaw21_code.l0]; rw [if_neg (by omega)]
  | succ d ih =>
    intro i x hi
    refine Ends.to (fun k => ?_) (ih (i + 1) (wrap64 (x + (wrap64 ((wrap64 ((wrap64 (1 + (((rd_T186 l (i : Int)).f6).length : Int))) + (((rd_T186 l (i : Int)).f7).length : Int))) + (((rd_T186 l (i : Int)).f5).length : Int))))) (by omega))
    simp only [trunnionlaw21_code.l0]
    rw [if_pos (by omega), if_pos (by omega), if_pos (by omega), w64 (n := (i : Int) + 1) (by omega) (by omega)]
    rfl
theorem code_ends (l : List S186) (hl : l.length ≤ 9223372036854775807) : Ends (fun k => trunnionlaw21_code.f k l) := code_from l hl l.length 0 0 (by omega)
theorem names1 (l : List S188) (hl : l.length ≤ 9223372036854775807) (d : Nat) : ∀ i : Nat, i + d = l.length → Ends (fun k => trunnionlaw21_names.l1 k l (l.length : Int) (i : Int)) := by
  induction d with
  | zero => intro i hi; exact Ends.now _ fun k => by simp only [trunnionlaw21_names.l1]; rw [if_neg (by omega)]
  | succ d ih =>
    intro i hi
    by_cases c : (((rd_T188 l (i : Int)).f0).size : Int) > 100
    · exact Ends.now false fun k => by simp only [trunnionlaw21_names.l1]; rw [if_pos (by omega), if_pos (by omega), if_pos (by omega), if_pos c]
    · refine Ends.to (fun k => ?_) (ih (i + 1) (by omega))
      simp only [trunnionlaw21_names.l1]
      rw [if_pos (by omega), if_pos (by omega), if_pos (by omega), if_neg c, w64 (n := (i : Int) + 1) (by omega) (by omega)]
      rfl
section
variable (a0 : List S34) (a1 : List S63) (a2 : List S151) (a3 : List S37) (a4 : List S37) (a5 : List S154) (a6 : List S188) (a7 : Bool) (a8 : Int) (a9 : List S190) (a10 : List S192)
theorem names0 (l : List S63) (hl : l.length ≤ 9223372036854775807) (h6 : a6.length ≤ 9223372036854775807) (d : Nat) : ∀ i : Nat, i + d = l.length → Ends (fun k => trunnionlaw21_names.l0 k l (l.length : Int) (i : Int) a0 a1 a2 a3 a4 a5 a6 a7 a8 a9 a10) := by
  induction d with
  | zero => intro i hi; exact Ends.to (fun k => by simp only [trunnionlaw21_names.l0]; rw [if_neg (by omega)]; rfl) (names1 a6 h6 a6.length 0 (by omega))
  | succ d ih =>
    intro i hi
    by_cases c : (((rd_T63 l (i : Int)).f0).size : Int) > 100
    · exact Ends.now false fun k => by simp only [trunnionlaw21_names.l0]; rw [if_pos (by omega), if_pos (by omega), if_pos (by omega), if_pos c]
    by_cases c2 : (((rd_T63 l (i : Int)).f1).size : Int) > 100
    · exact Ends.now false fun k => by simp only [trunnionlaw21_names.l0]; rw [if_pos (by omega), if_pos (by omega), if_pos (by omega), if_neg c, if_pos c2]
    · refine Ends.to (fun k => ?_) (ih (i + 1) (by omega))
      simp only [trunnionlaw21_names.l0]
      rw [if_pos (by omega), if_pos (by omega), if_pos (by omega), if_neg c, if_neg c2, w64 (n := (i : Int) + 1) (by omega) (by omega)]
      rfl
theorem names_ends (h1 : a1.length ≤ 9223372036854775807) (h6 : a6.length ≤ 9223372036854775807) : Ends (fun k => trunnionlaw21_names.f k a0 a1 a2 a3 a4 a5 a6 a7 a8 a9 a10) := names0 a0 a1 a2 a3 a4 a5 a6 a7 a8 a9 a10 a1 h1 h6 a1.length 0 (by omega)
theorem segs1 (l : List S192) (hl : l.length ≤ 9223372036854775807) (hin : ∀ x ∈ l, x.f1.length ≤ 9223372036854775807) (d : Nat) : ∀ i : Nat, i + d = l.length → Ends (fun k => trunnionlaw21_segments.l1 k l (l.length : Int) (i : Int)) := by
  induction d with
  | zero => intro i hi; exact Ends.now _ fun k => by simp only [trunnionlaw21_segments.l1]; rw [if_neg (by omega)]
  | succ d ih =>
    intro i hi
    have hx : (rd_T192 l (i : Int)).f1.length ≤ 9223372036854775807 := by
      have hlt : i < l.length := by omega
      have : rd_T192 l (i : Int) = l[i] := by simp [rd_T192, List.getD_eq_getElem?_getD, List.getElem?_eq_getElem hlt]
      rw [this]; exact hin _ (List.getElem_mem hlt)
    by_cases c : (((rd_T192 l (i : Int)).f2).length : Int) > 5000
    · refine Ends.andTo (code_ends _ hx) (f := fun _ => some false) (Ends.some false fun _ => rfl) (fun k => ?_)
      simp only [trunnionlaw21_segments.l1]
      rw [if_pos (by omega), if_pos (by omega), if_pos (by omega)]
      simp only [if_pos c]
    · refine Ends.andTo (code_ends _ hx) (ih (i + 1) (by omega)) (fun k => ?_)
      simp only [trunnionlaw21_segments.l1]
      rw [if_pos (by omega), if_pos (by omega), if_pos (by omega), w64 (n := (i : Int) + 1) (by omega) (by omega)]
      simp only [if_neg c]
      rfl
theorem segs0 (l : List S190) (hl : l.length ≤ 9223372036854775807) (hin : ∀ x ∈ l, x.f1.length ≤ 9223372036854775807) (h10 : a10.length ≤ 9223372036854775807) (hin10 : ∀ x ∈ a10, x.f1.length ≤ 9223372036854775807) (d : Nat) : ∀ i : Nat, i + d = l.length → Ends (fun k => trunnionlaw21_segments.l0 k l (l.length : Int) (i : Int) a0 a1 a2 a3 a4 a5 a6 a7 a8 a9 a10) := by
  induction d with
  | zero => intro i hi; exact Ends.to (fun k => by simp only [trunnionlaw21_segments.l0]; rw [if_neg (by omega)]; rfl) (segs1 a10 h10 hin10 a10.length 0 (by omega))
  | succ d ih =>
    intro i hi
    have hx : (rd_T190 l (i : Int)).f1.length ≤ 9223372036854775807 := by
      have hlt : i < l.length := by omega
      have : rd_T190 l (i : Int) = l[i] := by simp [rd_T190, List.getD_eq_getElem?_getD, List.getElem?_eq_getElem hlt]
      rw [this]; exact hin _ (List.getElem_mem hlt)
    by_cases c : (((rd_T190 l (i : Int)).f2).length : Int) > 5000
    · refine Ends.andTo (code_ends _ hx) (f := fun _ => some false) (Ends.some false fun _ => rfl) (fun k => ?_)
      simp only [trunnionlaw21_segments.l0]
      rw [if_pos (by omega), if_pos (by omega), if_pos (by omega)]
      simp only [if_pos c]
    · refine Ends.andTo (code_ends _ hx) (ih (i + 1) (by omega)) (fun k => ?_)
      simp only [trunnionlaw21_segments.l0]
      rw [if_pos (by omega), if_pos (by omega), if_pos (by omega), w64 (n := (i : Int) + 1) (by omega) (by omega)]
      simp only [if_neg c]
      rfl
theorem segs_ends (h9 : a9.length ≤ 9223372036854775807) (hin9 : ∀ x ∈ a9, x.f1.length ≤ 9223372036854775807) (h10 : a10.length ≤ 9223372036854775807) (hin10 : ∀ x ∈ a10, x.f1.length ≤ 9223372036854775807) : Ends (fun k => trunnionlaw21_segments.f k a0 a1 a2 a3 a4 a5 a6 a7 a8 a9 a10) := segs0 a0 a1 a2 a3 a4 a5 a6 a7 a8 a9 a10 a9 h9 hin9 h10 hin10 a9.length 0 (by omega)
theorem few2 (l : List S154) (hl : l.length ≤ 9223372036854775807) (hin : ∀ x ∈ l, x.f1.length ≤ 9223372036854775807) (hn : Ends (fun k => trunnionlaw21_names.f k a0 a1 a2 a3 a4 a5 a6 a7 a8 a9 a10)) (hs : Ends (fun k => trunnionlaw21_segments.f k a0 a1 a2 a3 a4 a5 a6 a7 a8 a9 a10)) (d : Nat) : ∀ i : Nat, i + d = l.length → Ends (fun k => trunnionlaw21_Few.l2 k l (l.length : Int) (i : Int) a0 a1 a2 a3 a4 a5 a6 a7 a8 a9 a10) := by
  induction d with
  | zero =>
    intro i hi
    refine Ends.andTo hn hs (fun k => ?_)
    simp only [trunnionlaw21_Few.l2]
    rw [if_neg (by omega)]
    congr 1
    funext t
    split
    · cases trunnionlaw21_segments.f k a0 a1 a2 a3 a4 a5 a6 a7 a8 a9 a10 <;> rfl
    · rfl
  | succ d ih =>
    intro i hi
    have hx : (rd_T154 l (i : Int)).f1.length ≤ 9223372036854775807 := by
      have hlt : i < l.length := by omega
      have : rd_T154 l (i : Int) = l[i] := by simp [rd_T154, List.getD_eq_getElem?_getD, List.getElem?_eq_getElem hlt]
      rw [this]; exact hin _ (List.getElem_mem hlt)
    refine Ends.andTo (code_ends _ hx) (ih (i + 1) (by omega)) (fun k => ?_)
    simp only [trunnionlaw21_Few.l2]
    rw [if_pos (by omega), if_pos (by omega), if_pos (by omega), w64 (n := (i : Int) + 1) (by omega) (by omega)]
    rfl
theorem few1 (l : List S151) (hl : l.length ≤ 9223372036854775807) (hin : ∀ x ∈ l, x.f2.length ≤ 9223372036854775807) (h5 : a5.length ≤ 9223372036854775807) (hin5 : ∀ x ∈ a5, x.f1.length ≤ 9223372036854775807) (hn : Ends (fun k => trunnionlaw21_names.f k a0 a1 a2 a3 a4 a5 a6 a7 a8 a9 a10)) (hs : Ends (fun k => trunnionlaw21_segments.f k a0 a1 a2 a3 a4 a5 a6 a7 a8 a9 a10)) (d : Nat) : ∀ i : Nat, i + d = l.length → Ends (fun k => trunnionlaw21_Few.l1 k l (l.length : Int) (i : Int) a0 a1 a2 a3 a4 a5 a6 a7 a8 a9 a10) := by
  induction d with
  | zero => intro i hi; exact Ends.to (fun k => by simp only [trunnionlaw21_Few.l1]; rw [if_neg (by omega)]; rfl) (few2 a0 a1 a2 a3 a4 a5 a6 a7 a8 a9 a10 a5 h5 hin5 hn hs a5.length 0 (by omega))
  | succ d ih =>
    intro i hi
    have hx : (rd_T151 l (i : Int)).f2.length ≤ 9223372036854775807 := by
      have hlt : i < l.length := by omega
      have : rd_T151 l (i : Int) = l[i] := by simp [rd_T151, List.getD_eq_getElem?_getD, List.getElem?_eq_getElem hlt]
      rw [this]; exact hin _ (List.getElem_mem hlt)
    by_cases c : (((rd_T151 l (i : Int)).f1).length : Int) > 2000
    · exact Ends.now false fun k => by simp only [trunnionlaw21_Few.l1]; rw [if_pos (by omega), if_pos (by omega), if_pos (by omega), if_pos c]
    · refine Ends.andTo (code_ends _ hx) (ih (i + 1) (by omega)) (fun k => ?_)
      simp only [trunnionlaw21_Few.l1]
      rw [if_pos (by omega), if_pos (by omega), if_pos (by omega), if_neg c, w64 (n := (i : Int) + 1) (by omega) (by omega)]
      rfl
theorem few0 (l : List S34) (hl : l.length ≤ 9223372036854775807) (h2 : a2.length ≤ 9223372036854775807) (hin2 : ∀ x ∈ a2, x.f2.length ≤ 9223372036854775807) (h5 : a5.length ≤ 9223372036854775807) (hin5 : ∀ x ∈ a5, x.f1.length ≤ 9223372036854775807) (hn : Ends (fun k => trunnionlaw21_names.f k a0 a1 a2 a3 a4 a5 a6 a7 a8 a9 a10)) (hs : Ends (fun k => trunnionlaw21_segments.f k a0 a1 a2 a3 a4 a5 a6 a7 a8 a9 a10)) (d : Nat) : ∀ i : Nat, i + d = l.length → Ends (fun k => trunnionlaw21_Few.l0 k l (l.length : Int) (i : Int) a0 a1 a2 a3 a4 a5 a6 a7 a8 a9 a10) := by
  induction d with
  | zero => intro i hi; exact Ends.to (fun k => by simp only [trunnionlaw21_Few.l0]; rw [if_neg (by omega)]; rfl) (few1 a0 a1 a2 a3 a4 a5 a6 a7 a8 a9 a10 a2 h2 hin2 h5 hin5 hn hs a2.length 0 (by omega))
  | succ d ih =>
    intro i hi
    by_cases c : (((rd_T34 l (i : Int)).f0).length : Int) > 100
    · exact Ends.now false fun k => by simp only [trunnionlaw21_Few.l0]; rw [if_pos (by omega), if_pos (by omega), if_pos (by omega), if_pos c]
    by_cases c2 : (((rd_T34 l (i : Int)).f1).length : Int) > 100
    · exact Ends.now false fun k => by simp only [trunnionlaw21_Few.l0]; rw [if_pos (by omega), if_pos (by omega), if_pos (by omega), if_neg c, if_pos c2]
    · refine Ends.to (fun k => ?_) (ih (i + 1) (by omega))
      simp only [trunnionlaw21_Few.l0]
      rw [if_pos (by omega), if_pos (by omega), if_pos (by omega), if_neg c, if_neg c2, w64 (n := (i : Int) + 1) (by omega) (by omega)]
      rfl
theorem j0_true : Ends (fun k => trunnionlaw21_Few.j0 k true a0 a1 a2 a3 a4 a5 a6 a7 a8 a9 a10) := Ends.now false fun k => by simp only [trunnionlaw21_Few.j0, if_true]
theorem j0_ends (b : Bool) (h : Ends (fun k => trunnionlaw21_Few.l0 k a0 (a0.length : Int) 0 a0 a1 a2 a3 a4 a5 a6 a7 a8 a9 a10)) : Ends (fun k => trunnionlaw21_Few.j0 k b a0 a1 a2 a3 a4 a5 a6 a7 a8 a9 a10) := by
  cases b with
  | true => exact j0_true a0 a1 a2 a3 a4 a5 a6 a7 a8 a9 a10
  | false => exact Ends.to (fun k => by simp only [trunnionlaw21_Few.j0, Bool.false_eq_true, if_false]) h
theorem few_many (h : (a1.length : Int) > 50) : ∀ k, trunnionlaw21_Few.f (k + 1) a0 a1 a2 a3 a4 a5 a6 a7 a8 a9 a10 = some false := by
  intro k
  have e : trunnionlaw21_Few.j0 (k + 1) true a0 a1 a2 a3 a4 a5 a6 a7 a8 a9 a10 = some false := by simp only [trunnionlaw21_Few.j0, if_true]
  unfold trunnionlaw21_Few.f
  by_cases c0 : (a0.length : Int) > 50
  · rw [if_pos c0]; exact e
  · rw [if_neg c0, if_pos h]; exact e
theorem few_ends (h0 : a0.length ≤ 9223372036854775807) (h1 : a1.length ≤ 9223372036854775807) (h2 : a2.length ≤ 9223372036854775807) (h5 : a5.length ≤ 9223372036854775807) (h6 : a6.length ≤ 9223372036854775807) (h9 : a9.length ≤ 9223372036854775807) (h10 : a10.length ≤ 9223372036854775807) (hin2 : ∀ x ∈ a2, x.f2.length ≤ 9223372036854775807) (hin5 : ∀ x ∈ a5, x.f1.length ≤ 9223372036854775807) (hin9 : ∀ x ∈ a9, x.f1.length ≤ 9223372036854775807) (hin10 : ∀ x ∈ a10, x.f1.length ≤ 9223372036854775807) :
    ∃ r, (∃ k, trunnionlaw21_Few.f k a0 a1 a2 a3 a4 a5 a6 a7 a8 a9 a10 = some r) ∧ (r = true → a1.length ≤ 50) := by
  by_cases c : (a1.length : Int) > 50
  · exact ⟨false, ⟨1, few_many a0 a1 a2 a3 a4 a5 a6 a7 a8 a9 a10 c 0⟩, fun h => by cases h⟩
  have hl := few0 a0 a1 a2 a3 a4 a5 a6 a7 a8 a9 a10 a0 h0 h2 hin2 h5 hin5 (names_ends a0 a1 a2 a3 a4 a5 a6 a7 a8 a9 a10 h1 h6) (segs_ends a0 a1 a2 a3 a4 a5 a6 a7 a8 a9 a10 h9 hin9 h10 hin10) a0.length 0 (by omega)
  have hE : Ends (fun k => trunnionlaw21_Few.f k a0 a1 a2 a3 a4 a5 a6 a7 a8 a9 a10) := by
    unfold trunnionlaw21_Few.f
    have ht := j0_true a0 a1 a2 a3 a4 a5 a6 a7 a8 a9 a10
    repeat' (first | exact ht | exact j0_ends a0 a1 a2 a3 a4 a5 a6 a7 a8 a9 a10 _ hl | split)
  obtain ⟨r, hr⟩ := hE
  exact ⟨r, hr.rounds, fun _ => by omega⟩
end
end Go.Proofs.Ytkpjdkmggbelfaa.Names
