/- Any things match any types just if the document says so, one by one; else the first that does not is told: the plain law. -/
import Derived.Test.YtkpjdkmggbelfaaQ29x8
namespace Go.Proofs.Ytkpjdkmggbelfaa.Pure
open Go.RowKit Go.Proofs.YtkpjdkmggbelfaaW.PrintWords Go.Proofs.YtkpjdkmggbelfaaW.PrintLast Go.Proofs.YtkpjdkmggbelfaaW.PrintMore Go.Proofs.Ytkpjdkmggbelfaa.Q29 Go.Proofs.Ytkpjdkmggbelfaa.Link
set_option linter.unusedVariables false

def okX (x : S41) : Prop := okB x.f1.f0 ∧ okB x.f1.f1
theorem rd41 (l : List S41) (i : Nat) (h : i < l.length) : rd_T41 l (i : Int) = l[i] := by simp [rd_T41, List.getD_eq_getElem?_getD, List.getElem?_eq_getElem h]
theorem rd46 (l : List S46) (i : Nat) (h : i < l.length) : rd_T46 l (i : Int) = l[i] := by simp [rd_T46, List.getD_eq_getElem?_getD, List.getElem?_eq_getElem h]
/-- Are the things few, and their types short? -/
def fewL (n : Nat) : List S41 → Bool
  | [] => decide ((n : Int) ≤ 100)
  | x :: t => if wrap64 ((x.f1.f0.length : Int) + (x.f1.f1.length : Int)) > 100 then false else fewL n t
theorem few_from (l : List S41) (hl : l.length ≤ 9223372036854775807) (d : Nat) : ∀ i : Nat, i + d = l.length → Ev (fun k => trunnionlaw29_few.l0 k l l (l.length : Int) (i : Int)) (fewL l.length (l.drop i)) := by
  induction d with
  | zero =>
    intro i hi
    refine Ev.step (f := fun _ => _) (fun k => ?_) (Ev.now _)
    simp only [trunnionlaw29_few.l0]
    rw [if_neg (by omega), List.drop_eq_nil_of_le (by omega)]
    rfl
  | succ d ih =>
    intro i hi
    have h1 : i < l.length := by omega
    rw [List.drop_eq_getElem_cons h1]
    by_cases c : wrap64 ((l[i].f1.f0.length : Int) + (l[i].f1.f1.length : Int)) > 100
    · refine Ev.step (f := fun _ => _) (fun k => ?_) (Ev.now _)
      simp only [trunnionlaw29_few.l0, fewL]
      rw [if_pos (by omega), if_pos (by omega), if_pos (by omega), rd41 l i h1, if_pos c, if_pos c]
    · have e : fewL l.length (l[i] :: l.drop (i + 1)) = fewL l.length (l.drop (i + 1)) := by simp only [fewL]; rw [if_neg c]
      rw [e]
      refine Ev.step (f := fun k => trunnionlaw29_few.l0 k l l (l.length : Int) ((i + 1 : Nat) : Int)) (fun k => ?_) (ih (i + 1) (by omega))
      simp only [trunnionlaw29_few.l0]
      rw [if_pos (by omega), if_pos (by omega), if_pos (by omega), rd41 l i h1, if_neg c, Link.w64 (by omega) (by omega)]
      rfl
theorem few_ev (l : List S41) (hl : l.length ≤ 9223372036854775807) : Ev (fun k => trunnionlaw29_few.f k l) (fewL l.length l) := by
  have h := few_from l hl l.length 0 (by omega)
  exact h
theorem fewL_len (n : Nat) (l : List S41) (h : fewL n l = true) : n ≤ 100 := by
  induction l with
  | nil => simp only [fewL, decide_eq_true_eq] at h; omega
  | cons x t ih =>
    simp only [fewL] at h
    split at h
    · cases h
    · exact ih h
/-- A type as the document has it. -/
def pl (x : S41) : S46 := ⟨x.f0, x.f1.f0, x.f1.f1, ⟨x.f2.f0, x.f2.f1, x.f2.f2⟩, x.f3.f0, x.f3.f1⟩
theorem plain_from (l : List S41) (hl : l.length ≤ 100) (d : Nat) : ∀ i : Nat, i + d = l.length → Ev (fun k => trunnionlaw24_Plain.l0 k ((l.take i).map pl) l (l.length : Int) (i : Int)) (l.map pl) := by
  induction d with
  | zero =>
    intro i hi
    refine Ev.step (f := fun _ => _) (fun k => ?_) (Ev.now _)
    simp only [trunnionlaw24_Plain.l0]
    rw [if_neg (by omega), List.take_of_length_le (by omega)]
  | succ d ih =>
    intro i hi
    have h1 : i < l.length := by omega
    refine Ev.step (f := fun k => trunnionlaw24_Plain.l0 k ((l.take (i + 1)).map pl) l (l.length : Int) ((i + 1 : Nat) : Int)) (fun k => ?_) (ih (i + 1) (by omega))
    have e : (l.take (i + 1)).map pl = (l.take i).map pl ++ [pl l[i]] := by
      rw [List.take_add_one, List.getElem?_eq_getElem h1, List.map_append]
      rfl
    simp only [trunnionlaw24_Plain.l0]
    rw [if_pos (by omega), if_pos (by omega), if_pos (by omega), if_pos (by rw [List.length_map, List.length_take]; omega), rd41 l i h1, e, Link.w64 (by omega) (by omega)]
    rfl
theorem plain_ev (l : List S41) (hl : l.length ≤ 100) : Ev (fun k => trunnionlaw24_Plain.f k l) (l.map pl) := by
  have h := plain_from l hl l.length 0 (by omega)
  exact h
theorem mt_ref (x y : S41) (hx : okX x) (hy : okX y) : trunnionref29_Match.f ((pl x).f0) ((pl x).f1) ((pl x).f2) ((pl x).f3.f0) ((pl x).f3.f1) ((pl x).f3.f2) ((pl x).f4) ((pl x).f5) ((pl y).f0) ((pl y).f1) ((pl y).f2) ((pl y).f3.f0) ((pl y).f3.f1) ((pl y).f3.f2) ((pl y).f4) ((pl y).f5) = some (Link.mt x y) := by
  unfold trunnionref29_Match.f Link.mt
  exact congrArg some (ref_match x.f0 x.f1.f0 x.f1.f1 x.f2.f0 x.f2.f1 x.f2.f2 x.f3.f0 x.f3.f1 y.f0 y.f1.f0 y.f1.f1 y.f2.f0 y.f2.f1 y.f2.f2 y.f3.f0 y.f3.f1 hx.1 hx.2 hy.1 hy.2)
theorem all_from (l0 l1 : List S41) (hl : l0.length ≤ 100) (he : l0.length = l1.length) (o0 : ∀ x ∈ l0, okX x) (o1 : ∀ x ∈ l1, okX x) (d : Nat) : ∀ i : Nat, i + d = l0.length →
    Ev (fun k => trunnionref29_All.l0 k (l0.map pl) (l1.map pl) (i : Int)) (if 0 ≤ firstP l0 l1 d i then (firstP l0 l1 d i, 301) else (0, 0)) := by
  induction d with
  | zero =>
    intro i hi
    refine Ev.step (f := fun _ => _) (fun k => ?_) (Ev.now _)
    simp only [trunnionref29_All.l0]
    rw [if_neg (by rw [List.length_map]; omega)]
    rfl
  | succ d ih =>
    intro i hi
    have h1 : i < l0.length := by omega
    have h2 : i < l1.length := by omega
    have hm := mt_ref l0[i] l1[i] (o0 _ (List.getElem_mem h1)) (o1 _ (List.getElem_mem h2))
    have e1 : rd_T46 (l0.map pl) (i : Int) = pl l0[i] := by rw [rd46 _ i (by rw [List.length_map]; exact h1), List.getElem_map]
    have e2 : rd_T46 (l1.map pl) (i : Int) = pl l1[i] := by rw [rd46 _ i (by rw [List.length_map]; exact h2), List.getElem_map]
    have hf : firstP l0 l1 (d + 1) i = if Link.mt l0[i] l1[i] = true then firstP l0 l1 d (i + 1) else (i : Int) := by
      simp only [firstP]
      rw [rd41 l0 i h1, rd41 l1 i h2]
    rw [hf]
    by_cases c : Link.mt l0[i] l1[i] = true
    · rw [if_pos c]
      refine Ev.step (f := fun k => trunnionref29_All.l0 k (l0.map pl) (l1.map pl) ((i + 1 : Nat) : Int)) (fun k => ?_) (ih (i + 1) (by omega))
      simp only [trunnionref29_All.l0]
      rw [if_pos (by rw [List.length_map]; omega), if_pos (by omega), if_pos (by rw [List.length_map]; omega), e1, e2, hm]
      simp only [Option.bind_some]
      rw [if_pos c, Link.w64 (by omega) (by omega)]
      rfl
    · rw [if_neg c, if_pos (by omega)]
      refine Ev.step (f := fun _ => _) (fun k => ?_) (Ev.now _)
      simp only [trunnionref29_All.l0]
      rw [if_pos (by rw [List.length_map]; omega), if_pos (by omega), if_pos (by rw [List.length_map]; omega), e1, e2, hm]
      simp only [Option.bind_some]
      rw [if_neg c]
theorem all_ev (l0 l1 : List S41) (hl : l0.length ≤ 100) (o0 : ∀ x ∈ l0, okX x) (o1 : ∀ x ∈ l1, okX x) : Ev (fun k => trunnionref29_All.f k (l0.map pl) (l1.map pl)) (allP l0 l1) := by
  unfold allP
  by_cases c : l0.length = l1.length
  · rw [if_pos c]
    refine Ev.congr (f := fun k => trunnionref29_All.l0 k (l0.map pl) (l1.map pl) ((0 : Nat) : Int)) (fun k => ?_) (all_from l0 l1 hl c o0 o1 l0.length 0 (by omega))
    unfold trunnionref29_All.f
    rw [if_pos (by rw [List.length_map, List.length_map]; omega)]
    rfl
  · rw [if_neg c]
    refine Ev.congr (f := fun _ => some (0, 300)) (fun k => ?_) (Ev.now _)
    unfold trunnionref29_All.f
    rw [if_neg (by rw [List.length_map, List.length_map]; omega)]
theorem inner_from (l0 l1 : List S41) (hl0 : l0.length ≤ 100) (hl : l1.length ≤ 100) (o0 : ∀ x ∈ l0, okX x) (o1 : ∀ x ∈ l1, okX x) (i : Nat) (hi : i < l0.length) (hn : Ev (fun k => trunnionlaw29_LinkMatches.l0 k l1 (l0.map pl) (l1.map pl) l0 (l0.length : Int) ((i + 1 : Nat) : Int)) true) (d : Nat) : ∀ j : Nat, j + d = l1.length →
    Ev (fun k => trunnionlaw29_LinkMatches.l1 k l1 (l0.map pl) (l1.map pl) (i : Int) l0 (l0.length : Int) (i : Int) l1 (l1.length : Int) (j : Int) ((rd_T41 l0 (i : Int)).f0) ((rd_T41 l0 (i : Int)).f1.f0) ((rd_T41 l0 (i : Int)).f1.f1) ((rd_T41 l0 (i : Int)).f2.f0) ((rd_T41 l0 (i : Int)).f2.f1) ((rd_T41 l0 (i : Int)).f2.f2) ((rd_T41 l0 (i : Int)).f3.f0) ((rd_T41 l0 (i : Int)).f3.f1)) true := by
  induction d with
  | zero =>
    intro j hj
    refine Ev.step (f := fun k => trunnionlaw29_LinkMatches.l0 k l1 (l0.map pl) (l1.map pl) l0 (l0.length : Int) ((i + 1 : Nat) : Int)) (fun k => ?_) hn
    simp only [trunnionlaw29_LinkMatches.l1]
    rw [if_neg (by omega), Link.w64 (by omega) (by omega)]
    rfl
  | succ d ih =>
    intro j hj
    have h1 : j < l1.length := by omega
    have hm := mt_ref l0[i] l1[j] (o0 _ (List.getElem_mem hi)) (o1 _ (List.getElem_mem h1))
    have e1 : rd_T46 (l0.map pl) (i : Int) = pl l0[i] := by rw [rd46 _ i (by rw [List.length_map]; exact hi), List.getElem_map]
    have e2 : rd_T46 (l1.map pl) (j : Int) = pl l1[j] := by rw [rd46 _ j (by rw [List.length_map]; exact h1), List.getElem_map]
    refine Ev.step (f := fun k => trunnionlaw29_LinkMatches.l1 k l1 (l0.map pl) (l1.map pl) (i : Int) l0 (l0.length : Int) (i : Int) l1 (l1.length : Int) ((j + 1 : Nat) : Int) ((rd_T41 l0 (i : Int)).f0) ((rd_T41 l0 (i : Int)).f1.f0) ((rd_T41 l0 (i : Int)).f1.f1) ((rd_T41 l0 (i : Int)).f2.f0) ((rd_T41 l0 (i : Int)).f2.f1) ((rd_T41 l0 (i : Int)).f2.f2) ((rd_T41 l0 (i : Int)).f3.f0) ((rd_T41 l0 (i : Int)).f3.f1)) (fun k => ?_) (ih (j + 1) (by omega))
    simp only [trunnionlaw29_LinkMatches.l1, link_Match.f]
    rw [if_pos (by omega), if_pos (by omega), if_pos (by omega)]
    simp only [Option.bind_some]
    rw [if_pos (by omega), if_pos (by rw [List.length_map]; omega), if_pos (by rw [List.length_map]; omega), e1, e2, hm, rd41 l0 i hi, rd41 l1 j h1, Link.w64 (by omega) (by omega)]
    simp only [Option.bind_some]
    rw [if_neg (by unfold Link.mt; simp)]
    rfl
theorem outer_from (l0 l1 : List S41) (hl0 : l0.length ≤ 100) (hl : l1.length ≤ 100) (o0 : ∀ x ∈ l0, okX x) (o1 : ∀ x ∈ l1, okX x) (d : Nat) : ∀ i : Nat, i + d = l0.length →
    Ev (fun k => trunnionlaw29_LinkMatches.l0 k l1 (l0.map pl) (l1.map pl) l0 (l0.length : Int) (i : Int)) true := by
  induction d with
  | zero =>
    intro i hi
    refine Ev.step (f := fun _ => some true) (fun k => ?_) (Ev.now _)
    simp only [trunnionlaw29_LinkMatches.l0]
    rw [if_neg (by omega)]
  | succ d ih =>
    intro i hi
    have h1 : i < l0.length := by omega
    refine Ev.step (f := _) (fun k => ?_) (inner_from l0 l1 hl0 hl o0 o1 i h1 (ih (i + 1) (by omega)) l1.length 0 (by omega))
    simp only [trunnionlaw29_LinkMatches.l0]
    rw [if_pos (by omega), if_pos (by omega), if_pos (by omega)]
    rfl
theorem LinkMatches (l0 l1 : List S41) (hl0 : l0.length ≤ 9223372036854775807) (hl1 : l1.length ≤ 9223372036854775807) (o0 : ∀ x ∈ l0, okX x) (o1 : ∀ x ∈ l1, okX x) : ∃ k, trunnionlaw29_LinkMatches.f k l0 l1 = some true := by
  have early : Ev (fun k => trunnionlaw29_LinkMatches.j0 k l0 l1 true) true := by
    refine Ev.step (f := fun _ => some true) (fun k => ?_) (Ev.now _)
    simp [trunnionlaw29_LinkMatches.j0]
  refine Ev.rounds (g := fun k => trunnionlaw29_LinkMatches.f k l0 l1) ?_
  unfold trunnionlaw29_LinkMatches.f trunnionlaw29_awake.f
  simp only [Option.bind_some, if_true]
  refine Ev.bind (few_ev l0 hl0) ?_
  cases h0 : fewL l0.length l0 with
  | false => simpa using early
  | true =>
    simp only [if_true]
    refine Ev.bind (few_ev l1 hl1) ?_
    cases h1 : fewL l1.length l1 with
    | false => simpa using early
    | true =>
      have n0 := fewL_len _ _ h0
      have n1 := fewL_len _ _ h1
      refine Ev.step (f := fun k => (trunnionlaw24_Plain.f k l0).bind fun t126 => ((trunnionlaw24_Plain.f k l1).bind fun t129 => ((link_All.f l0 l1).bind fun bt132 => ((trunnionref29_All.f k t126 t129).bind fun bt134 => (if bt132.1 = bt134.1 then (trunnionlaw29_LinkMatches.j1 k l0 l1 t126 t129 (bt132.2 != bt134.2)) else (trunnionlaw29_LinkMatches.j1 k l0 l1 t126 t129 true)))))) (fun k => ?_) ?_
      · simp only [trunnionlaw29_LinkMatches.j0]
        rw [if_neg (by decide)]
      refine Ev.bind (plain_ev l0 n0) ?_
      refine Ev.bind (plain_ev l1 n1) ?_
      unfold link_All.f
      simp only [Option.bind_some]
      refine Ev.bind (all_ev l0 l1 n0 o0 o1) ?_
      simp only [if_true, bne_self_eq_false]
      refine Ev.step (f := fun k => trunnionlaw29_LinkMatches.l0 k l1 (l0.map pl) (l1.map pl) l0 (l0.length : Int) 0) (fun k => ?_) (outer_from l0 l1 n0 n1 o0 o1 l0.length 0 (by omega))
      simp only [trunnionlaw29_LinkMatches.j1]
      rw [if_neg (by decide)]
end Go.Proofs.Ytkpjdkmggbelfaa.Pure
