/- The plain functions of operand's stack. -/
namespace Go.Proofs.Ytkpjdkmggbelfaa.Operand
set_option linter.unusedVariables false
/-- A block that is being checked. -/
structure Fr where
  label : List Int
  fin : List Int
  types : List Int
  dead : Bool
def openM (fs : List Fr) (l e : List Int) : List Fr := fs ++ [⟨l, e, [], false⟩]
def pushM (fs : List Fr) (l : List Int) : List Fr :=
  match fs.getLast? with
  | none => fs
  | some f => fs.dropLast ++ [{ f with types := f.types ++ l }]
def popM (fs : List Fr) (want : Int) : Int × Int × List Fr :=
  match fs.getLast? with
  | none => (0, 200, fs)
  | some f =>
    match f.types.getLast? with
    | none => (0, if f.dead = true then 0 else 200, fs)
    | some x => if x ≠ 0 ∧ want ≠ 0 ∧ x ≠ want then (0, 201, fs) else (x, 0, fs.dropLast ++ [{ f with types := f.types.dropLast }])
def takeM (fs : List Fr) : List Int → Int × List Fr
  | [] => (0, fs)
  | x :: r => if (popM fs x).2.1 = 0 then takeM (popM fs x).2.2 r else ((popM fs x).2.1, (popM fs x).2.2)
def killM (fs : List Fr) : List Fr :=
  match fs.getLast? with
  | none => fs
  | some f => fs.dropLast ++ [{ f with types := [], dead := true }]
def labelM (fs : List Fr) (n : Int) : List Int × Bool := if n < (fs.length : Int) then ((fs.reverse.getD n.toNat ⟨[], [], [], false⟩).label, true) else ([], false)
def lyingM (fs : List Fr) : List Int :=
  match fs.getLast? with
  | none => []
  | some f => f.types
def closeM (fs : List Fr) : List Int × Int × List Fr :=
  match fs.getLast? with
  | none => ([], 200, fs)
  | some f =>
    let t := takeM fs f.fin.reverse
    if t.1 ≠ 0 then ([], t.1, t.2) else if (lyingM t.2).length > 0 then ([], 202, t.2) else (f.fin, 0, t.2.dropLast)
/-- How great it is. -/
def Small (K : Nat) (fs : List Fr) : Prop := fs.length ≤ K ∧ ∀ f ∈ fs, f.types.length ≤ K ∧ f.label.length ≤ K ∧ f.fin.length ≤ K
theorem Small.mono {K L : Nat} {fs : List Fr} (h : Small K fs) (hk : K ≤ L) : Small L fs := ⟨Nat.le_trans h.1 hk, fun f hf => ⟨Nat.le_trans (h.2 f hf).1 hk, Nat.le_trans (h.2 f hf).2.1 hk, Nat.le_trans (h.2 f hf).2.2 hk⟩⟩
theorem parted (fs : List Fr) : fs = [] ∨ ∃ gs f, fs = gs ++ [f] := by
  rcases List.eq_nil_or_concat fs with h | ⟨gs, f, h⟩
  · exact .inl h
  · exact .inr ⟨gs, f, by rw [h, List.concat_eq_append]⟩
theorem parted_ints (fs : List Int) : fs = [] ∨ ∃ gs f, fs = gs ++ [f] := by
  rcases List.eq_nil_or_concat fs with h | ⟨gs, f, h⟩
  · exact .inl h
  · exact .inr ⟨gs, f, by rw [h, List.concat_eq_append]⟩
theorem pushM_nil (l : List Int) : pushM [] l = [] := rfl
theorem pushM_last (gs : List Fr) (f : Fr) (l : List Int) : pushM (gs ++ [f]) l = gs ++ [{ f with types := f.types ++ l }] := by simp [pushM]
theorem killM_last (gs : List Fr) (f : Fr) : killM (gs ++ [f]) = gs ++ [{ f with types := [], dead := true }] := by simp [killM]
theorem lyingM_last (gs : List Fr) (f : Fr) : lyingM (gs ++ [f]) = f.types := by simp [lyingM]
theorem popM_nil (want : Int) : popM [] want = (0, 200, []) := rfl
theorem popM_empty (gs : List Fr) (f : Fr) (want : Int) (h : f.types = []) : popM (gs ++ [f]) want = (0, if f.dead = true then 0 else 200, gs ++ [f]) := by simp [popM, h]
theorem popM_miss (gs : List Fr) (f : Fr) (ts : List Int) (x want : Int) (h : f.types = ts ++ [x]) (hx : x ≠ 0 ∧ want ≠ 0 ∧ x ≠ want) : popM (gs ++ [f]) want = (0, 201, gs ++ [f]) := by simp [popM, h, hx]
theorem popM_hit (gs : List Fr) (f : Fr) (ts : List Int) (x want : Int) (h : f.types = ts ++ [x]) (hx : ¬ (x ≠ 0 ∧ want ≠ 0 ∧ x ≠ want)) : popM (gs ++ [f]) want = (x, 0, gs ++ [{ f with types := ts }]) := by
  simp only [popM, h, List.getLast?_append, List.getLast?_singleton, Option.some_or, List.dropLast_concat]
  rw [if_neg hx]
/-- Only the last frame's types change. -/
theorem popM_form (fs : List Fr) (want : Int) : fs = [] ∧ (popM fs want).2.2 = [] ∨ ∃ gs f ts, fs = gs ++ [f] ∧ (popM fs want).2.2 = gs ++ [{ f with types := ts }] ∧ ts.length ≤ f.types.length := by
  rcases parted fs with rfl | ⟨gs, f, rfl⟩
  · exact .inl ⟨rfl, rfl⟩
  · refine .inr ⟨gs, f, ?_⟩
    rcases parted_ints f.types with h | ⟨ts, x, h⟩
    · exact ⟨f.types, rfl, by rw [popM_empty _ _ _ h], Nat.le_refl _⟩
    · by_cases hx : x ≠ 0 ∧ want ≠ 0 ∧ x ≠ want
      · exact ⟨f.types, rfl, by rw [popM_miss _ _ _ _ _ h hx], Nat.le_refl _⟩
      · exact ⟨ts, rfl, by rw [popM_hit _ _ _ _ _ h hx], by rw [h, List.length_append]; omega⟩
theorem small_last {K : Nat} {gs : List Fr} {f : Fr} (h : Small K (gs ++ [f])) {f' : Fr} (h1 : f'.types.length ≤ K ∧ f'.label.length ≤ K ∧ f'.fin.length ≤ K) : Small K (gs ++ [f']) := by
  refine ⟨by have := h.1; simp at this ⊢; exact this, fun x hx => ?_⟩
  rcases List.mem_append.1 hx with hx | hx
  · exact h.2 x (List.mem_append_left _ hx)
  · rw [List.mem_singleton.1 hx]; exact h1
theorem small_of_last {K : Nat} {gs : List Fr} {f : Fr} (h : Small K (gs ++ [f])) : f.types.length ≤ K ∧ f.label.length ≤ K ∧ f.fin.length ≤ K := h.2 f (by simp)
theorem popM_small {K : Nat} {fs : List Fr} (want : Int) (h : Small K fs) : Small K (popM fs want).2.2 := by
  rcases popM_form fs want with ⟨_, e⟩ | ⟨gs, f, ts, rfl, e, hl⟩
  · rw [e]; exact ⟨Nat.zero_le _, fun f hf => by cases hf⟩
  · rw [e]
    have := small_of_last h
    exact small_last h ⟨by show ts.length ≤ K; omega, this.2.1, this.2.2⟩
theorem takeM_small {K : Nat} (l : List Int) : ∀ {fs : List Fr}, Small K fs → Small K (takeM fs l).2 := by
  induction l with
  | nil => intro fs h; exact h
  | cons x r ih =>
    intro fs h
    unfold takeM
    split
    · exact ih (popM_small x h)
    · exact popM_small x h
theorem takeM_form (l : List Int) : ∀ (gs : List Fr) (f : Fr), ∃ ts, (takeM (gs ++ [f]) l).2 = gs ++ [{ f with types := ts }] ∧ ts.length ≤ f.types.length := by
  induction l with
  | nil => intro gs f; exact ⟨f.types, rfl, Nat.le_refl _⟩
  | cons x r ih =>
    intro gs f
    rcases popM_form (gs ++ [f]) x with ⟨e, _⟩ | ⟨gs', f', ts, e, e2, hl⟩
    · simp at e
    · obtain ⟨rfl, e⟩ := List.append_inj' e rfl
      obtain rfl : f = f' := by simpa using e
      unfold takeM
      split
      · rw [e2]
        obtain ⟨ts', h1, h2⟩ := ih gs { f with types := ts }
        exact ⟨ts', h1, Nat.le_trans h2 hl⟩
      · exact ⟨ts, e2, hl⟩
theorem pushM_small {K n : Nat} {fs : List Fr} {l : List Int} (h : Small K fs) (hl : l.length ≤ n) : Small (K + n) (pushM fs l) := by
  rcases parted fs with rfl | ⟨gs, f, rfl⟩
  · exact ⟨Nat.zero_le _, fun f hf => by cases hf⟩
  · rw [pushM_last]
    have := small_of_last h
    exact small_last (h.mono (Nat.le_add_right _ _)) ⟨by show (f.types ++ l).length ≤ _; rw [List.length_append]; omega, by show f.label.length ≤ _; omega, by show f.fin.length ≤ _; omega⟩
theorem openM_small {K n : Nat} {fs : List Fr} {l e : List Int} (h : Small K fs) (hl : l.length ≤ n) (he : e.length ≤ n) (hn : 1 ≤ n) : Small (K + n) (openM fs l e) := by
  refine ⟨by unfold openM; rw [List.length_append]; simp; have := h.1; omega, fun f hf => ?_⟩
  rcases List.mem_append.1 hf with hf | hf
  · have := h.2 f hf; omega
  · rw [List.mem_singleton.1 hf]; exact ⟨Nat.zero_le _, by show l.length ≤ _; omega, by show e.length ≤ _; omega⟩
theorem killM_small {K : Nat} {fs : List Fr} (h : Small K fs) : Small K (killM fs) := by
  rcases parted fs with rfl | ⟨gs, f, rfl⟩
  · exact h
  · rw [killM_last]
    have := small_of_last h
    exact small_last h ⟨Nat.zero_le _, this.2⟩
theorem small_drop {K : Nat} {gs : List Fr} {f : Fr} (h : Small K (gs ++ [f])) : Small K gs := ⟨by have := h.1; simp at this; omega, fun x hx => h.2 x (List.mem_append_left _ hx)⟩
theorem closeM_small {K : Nat} {fs : List Fr} (h : Small K fs) : Small K (closeM fs).2.2 := by
  rcases parted fs with rfl | ⟨gs, f, rfl⟩
  · exact h
  · have ht := takeM_small f.fin.reverse h
    obtain ⟨ts, e, _⟩ := takeM_form f.fin.reverse gs f
    simp only [closeM, List.getLast?_append, List.getLast?_singleton, Option.some_or]
    rw [e] at ht ⊢
    split
    · exact ht
    · split
      · exact ht
      · rw [List.dropLast_concat]; exact small_drop ht
end Go.Proofs.Ytkpjdkmggbelfaa.Operand
