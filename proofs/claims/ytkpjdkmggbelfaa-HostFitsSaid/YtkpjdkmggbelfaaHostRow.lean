/- Rows of a queue: rows of their own whose elements lead to what is only read. -/
import Derived.Test.YtkpjdkmggbelfaaMem
namespace Go.Proofs.Ytkpjdkmggbelfaa.Host
open Go.RowKit Go.Proofs.YtkpjdkmggbelfaaW.PrintWords Go.Proofs.YtkpjdkmggbelfaaW.PrintLast Go.Proofs.YtkpjdkmggbelfaaW.PrintMore Go.Proofs.Ytkpjdkmggbelfaa.Mem
set_option linter.unusedVariables false
set_option linter.unusedSimpArgs false
theorem flat_length {sz : Nat} : ∀ {rows : List (List Value)}, (∀ c ∈ rows, c.length = sz) → rows.flatten.length = rows.length * sz
  | [], _ => by simp
  | c :: r, h => by
    rw [List.flatten_cons, List.length_append, flat_length (fun c hc => h c (List.mem_cons_of_mem _ hc)), h c (List.mem_cons_self ..), List.length_cons, Nat.add_mul]
    omega
theorem flat_get {sz : Nat} : ∀ {rows : List (List Value)} {j : Nat} {c : List Value}, (∀ c ∈ rows, c.length = sz) → rows[j]? = some c → ∀ i, i < sz → rows.flatten[j * sz + i]? = c[i]?
  | c0 :: r, 0, c, h, hc, i, hi => by
    simp only [List.getElem?_cons_zero, Option.some.injEq] at hc
    subst hc
    rw [List.flatten_cons, Nat.zero_mul, Nat.zero_add, List.getElem?_append_left (by rw [h c0 (List.mem_cons_self ..)]; exact hi)]
  | c0 :: r, j + 1, c, h, hc, i, hi => by
    simp only [List.getElem?_cons_succ] at hc
    have hl := h c0 (List.mem_cons_self ..)
    rw [List.flatten_cons, List.getElem?_append_right (by rw [hl, Nat.add_mul]; omega), hl, show (j + 1) * sz + i - sz = j * sz + i by rw [Nat.add_mul]; omega]
    exact flat_get (fun c hc => h c (List.mem_cons_of_mem _ hc)) hc i hi
/-- A row of its own that may be appended to; what its elements lead to lies in ok. -/
def Row {α : Type} (d : Kd α) (e : Nat) (W : World) (ok : Nat → Prop) (v : Value) (xs : List α) : Prop :=
  ∃ rows : List (List Value), rows.length = xs.length ∧ Loose W e d.sz v xs.length rows.flatten ∧ ∀ (j : Nat) (x : α) (c : List Value), xs[j]? = some x → rows[j]? = some c → Kd.FK d W ok x c
section
variable {α : Type} {d : Kd α} {e n m c : Nat} {ok ok' : Nat → Prop} {W W1 w1 : World} {A : Option Addr} {v v1 : Value} {xs ys : List α}
theorem rows_len {rows : List (List Value)} (hl : rows.length = xs.length) (h : ∀ (j : Nat) (x : α) (c : List Value), xs[j]? = some x → rows[j]? = some c → Kd.FK d W ok x c) : ∀ c ∈ rows, c.length = d.sz := by
  intro c hc
  obtain ⟨j, hj, rfl⟩ := List.getElem_of_mem hc
  exact d.K_len (Kd.FK_now (h j _ _ (List.getElem?_eq_getElem (by omega)) (List.getElem?_eq_getElem hj)))
theorem rows_one {rows : List (List Value)} (hl : rows.length = xs.length) (h : ∀ (j : Nat) (x : α) (c : List Value), xs[j]? = some x → rows[j]? = some c → Kd.FK d W ok x c) : ∀ u ∈ rows.flatten, u.oneCell' = true := by
  intro u hu
  obtain ⟨c, hc, hu⟩ := List.mem_flatten.1 hu
  obtain ⟨j, hj, rfl⟩ := List.getElem_of_mem hc
  exact d.K_one (Kd.FK_now (h j _ _ (List.getElem?_eq_getElem (by omega)) (List.getElem?_eq_getElem hj))) u hu
theorem Row.nil (d : Kd α) (e : Nat) (W : World) (ok : Nat → Prop) : Row d e W ok (.slice none 0 0) [] := ⟨[], rfl, Loose.nil _ _ _, fun j x c hx => by simp at hx⟩
theorem Row.mono (h : Row d e W ok v xs) (hok : ∀ k, ok k → ok' k) : Row d e W ok' v xs := by
  obtain ⟨rows, hl, hL, hf⟩ := h
  exact ⟨rows, hl, hL, fun j x c hx hc => Kd.FK_mono (hf j x c hx hc) hok⟩
theorem Row.lt (h : Row d e W ok v xs) : ∀ k, v.ownBlock = some k → k < W.heap.size := by
  obtain ⟨rows, hl, hL, hf⟩ := h
  exact hL.lt
theorem Row.move (h : Row d e W ok v xs) (hm : ∀ k, ok k → k < W.heap.size → W1.heap[k]? = W.heap[k]?) (hv : ∀ k, v.ownBlock = some k → W1.heap[k]? = W.heap[k]?) : Row d e W1 ok v xs := by
  obtain ⟨rows, hl, hL, hf⟩ := h
  exact ⟨rows, hl, hL.move hv, fun j x c hx hc => Kd.FK_step (hf j x c hx hc) hm⟩
theorem Row.one (h : Row d e W ok v xs) : ∃ A c, v = .slice A xs.length c := by
  obtain ⟨rows, hl, hL, hf⟩ := h
  rcases hL.2 with ⟨rfl, h0⟩ | ⟨g, cap, cur, rfl, _⟩
  · exact ⟨none, 0, by rw [h0]⟩
  · exact ⟨_, _, rfl⟩
/-- It is read. -/
theorem Row.F (h : Row d e W ok (.slice A n c) xs) : n = xs.length ∧ xs.length ≤ c ∧ Kd.F d W (fun k => ok k ∨ (Value.slice A n c).ownBlock = some k) A xs.length xs := by
  obtain ⟨rows, hl, hL, hf⟩ := h
  obtain ⟨rfl, hc, hcell⟩ := hL.get
  refine ⟨rfl, hc, fun W' hW => ⟨rfl, ?_, fun hp => ?_⟩⟩
  · rcases hL.2 with ⟨_, h0⟩ | ⟨g, cap, cur, _, _, hn, hm, _⟩
    · omega
    · have : maxLen = 9223372036854775807 := rfl
      omega
  · have hL' : Loose W' e d.sz (.slice A xs.length c) xs.length rows.flatten := hL.move fun k hk => hW k (.inr hk) (hL.lt k hk)
    rcases hL.2 with ⟨_, h0⟩ | ⟨g, cap, cur, he, _⟩
    · omega
    · injection he with hA _ _
      subst hA
      refine ⟨_, rfl, fun j p hj => ?_⟩
      have hjl := (List.getElem?_eq_some_iff.1 hj).1
      have hr := List.getElem?_eq_getElem (l := rows) (i := j) (by omega)
      have hK := hf j p _ hj hr
      refine ⟨rows[j], d.K_len (Kd.FK_now hK), hK W' (fun k hk hlt => hW k (.inl hk) hlt), fun i u hu => ?_⟩
      have hi : i < d.sz := by
        have := (List.getElem?_eq_some_iff.1 hu).1
        rwa [d.K_len (Kd.FK_now hK)] at this
      exact hL'.get.2.2 _ rfl (j * d.sz + i) u ((flat_get (rows_len hl hf) hr i hi).trans hu)
/-- What is read, as rows of cells. -/
theorem row_raw (h : Kd.F d W ok A n xs) : ∃ rows : List (List Value), rows.length = xs.length ∧ RawSrc W d.sz A n rows.flatten ∧ ∀ (j : Nat) (x : α) (c : List Value), xs[j]? = some x → rows[j]? = some c → Kd.FK d W ok x c := by
  obtain ⟨hl, hm, hn⟩ := Kd.F_rows h
  subst hl
  rcases Nat.eq_zero_or_pos xs.length with h0 | hp
  · have hx : xs = [] := List.eq_nil_of_length_eq_zero h0
    subst hx
    exact ⟨[], rfl, ⟨by simp, by simp, fun _ => rfl, fun ad e j u hu => by simp at hu⟩, fun j x c hx => by simp at hx⟩
  · obtain ⟨ad, rfl, hcell⟩ := hn hp
    have hX : ∀ j : Nat, ∃ cs : List Value, ∀ p, xs[j]? = some p → cs.length = d.sz ∧ Kd.FK d W ok p cs ∧ ∀ i u, cs[i]? = some u → W.cell? (ad.add (j * d.sz + i)) = some u := by
      intro j
      by_cases hj : j < xs.length
      · obtain ⟨cs, h1, h2, h3⟩ := hcell j _ (List.getElem?_eq_getElem hj)
        exact ⟨cs, fun p hp => by rw [List.getElem?_eq_getElem hj] at hp; injection hp with hp; subst hp; exact ⟨h1, h2, h3⟩⟩
      · exact ⟨[], fun p hp => by rw [List.getElem?_eq_none (by omega)] at hp; cases hp⟩
    obtain ⟨f, hf⟩ := Classical.skolem.1 hX
    have hrl : ((List.range xs.length).map f).length = xs.length := by simp
    have hrow : ∀ (j : Nat) (x : α) (c : List Value), xs[j]? = some x → ((List.range xs.length).map f)[j]? = some c → c = f j := by
      intro j x c hx hc
      have hj := (List.getElem?_eq_some_iff.1 hx).1
      rw [List.getElem?_map, List.getElem?_range hj] at hc
      simpa using hc.symm
    have hFK : ∀ (j : Nat) (x : α) (c : List Value), xs[j]? = some x → ((List.range xs.length).map f)[j]? = some c → Kd.FK d W ok x c := by
      intro j x c hx hc
      rw [hrow j x c hx hc]
      exact (hf j x hx).2.1
    refine ⟨(List.range xs.length).map f, hrl, ⟨by rw [flat_length (rows_len hrl hFK), hrl], rows_one hrl hFK, (fun e => by cases e), fun ad' e j u hu => ?_⟩, hFK⟩
    injection e with e
    subst e
    have hlen := flat_length (rows_len hrl hFK)
    have hjl := (List.getElem?_eq_some_iff.1 hu).1
    rw [hlen, hrl] at hjl
    have hsz : 0 < d.sz := by
      rcases Nat.eq_zero_or_pos d.sz with h0 | h0
      · rw [h0] at hjl; omega
      · exact h0
    have hq : j / d.sz < xs.length := Nat.div_lt_of_lt_mul (by rw [Nat.mul_comm]; exact hjl)
    have hr : ((List.range xs.length).map f)[j / d.sz]? = some (f (j / d.sz)) := by rw [List.getElem?_map, List.getElem?_range hq]; rfl
    have hdm : j / d.sz * d.sz + j % d.sz = j := by rw [Nat.mul_comm]; exact Nat.div_add_mod j d.sz
    have hg := flat_get (rows_len hrl hFK) hr (j % d.sz) (Nat.mod_lt _ hsz)
    rw [hdm, hu] at hg
    have := (hf (j / d.sz) _ (List.getElem?_eq_getElem hq)).2.2 _ _ hg.symm
    rwa [hdm] at this
/-- Behind an append. -/
theorem Row.appended {rows news : List (List Value)} (hl : rows.length = xs.length) (hf : ∀ (j : Nat) (x : α) (c : List Value), xs[j]? = some x → rows[j]? = some c → Kd.FK d W ok x c)
    (hl2 : news.length = ys.length) (hf2 : ∀ (j : Nat) (x : α) (c : List Value), ys[j]? = some x → news[j]? = some c → Kd.FK d W ok x c)
    (h1 : Loose w1 e d.sz v1 (xs.length + ys.length) (rows.flatten ++ news.flatten)) (hg : W.grownBy w1 v.ownBlock) (hne : ∀ k, ok k → some k ≠ v.ownBlock) : Row d e w1 ok v1 (xs ++ ys) := by
  refine ⟨rows ++ news, by simp [hl, hl2], by rw [List.flatten_append, List.length_append]; exact h1, fun j x c hx hc => ?_⟩
  refine Kd.FK_step ?_ fun k hk hlt => hg.block k hlt (hne k hk)
  by_cases hj : j < xs.length
  · rw [List.getElem?_append_left hj] at hx
    rw [List.getElem?_append_left (by omega)] at hc
    exact hf j x c hx hc
  · rw [List.getElem?_append_right (by omega)] at hx
    rw [List.getElem?_append_right (by omega), hl] at hc
    exact hf2 _ x c hx hc
end
end Go.Proofs.Ytkpjdkmggbelfaa.Host
