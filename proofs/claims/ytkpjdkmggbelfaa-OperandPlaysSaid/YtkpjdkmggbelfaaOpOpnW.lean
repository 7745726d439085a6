/- What comes in is read, and what it weighs bounds how long its inner slices are. -/
import Derived.Test.YtkpjdkmggbelfaaOpOpn2
import Derived.SizedLaws
namespace Go.Proofs.Ytkpjdkmggbelfaa.OpOpn2
open Go.ChangeShapes Go.WideShapes Go.RowKit Go.Proofs.YtkpjdkmggbelfaaW.PrintWords Go.Proofs.Ytkpjdkmggbelfaa.POperandNone
set_option linter.unusedVariables false
section
variable {H : Type} {enc : TypeId × Value → H} {w : World} {base : Nat} {spare : Nat → Bool} {held : Bool}
def Light {H : Type} (t : TypeId) (d : DataW H) : Prop := ∀ n ∈ d.weights Try.prog t, n ≤ reachBytes
def OpensW {α : Type} {H : Type} (enc : TypeId × Value → H) (w : World) (base : Nat) (spare : Nat → Bool) (held : Bool) (fuel : Nat) (t : TypeId) (d : Kd α) (ok wok : α → Prop) : Prop :=
  Try.prog.cellsOf t = d.sz ∧ ∀ cs x, DataW.trod enc Try.prog w base spare held fuel t cs = some x → ∃ X, d.K w X cs ∧ ok X ∧ (Light t x.1 → wok X)
theorem opens_to_w {α : Type} {fuel : Nat} {t : TypeId} {d : Kd α} {ok : α → Prop} (h : Opens enc w base spare held fuel t d ok) : OpensW enc w base spare held fuel t d ok (fun _ => True) :=
  ⟨h.1, fun cs x hx => by obtain ⟨X, h1, h2⟩ := h.2 cs x hx; exact ⟨X, h1, h2, fun _ => trivial⟩⟩
theorem mem_weightsAll {P : Program} {e : TypeId} {n : Nat} : ∀ {ds : List (DataW H)} {d : DataW H}, d ∈ ds → n ∈ d.weights P e → n ∈ DataW.weightsAll P e ds
  | d0 :: r, d, hd, hn => by
    simp only [DataW.weightsAll, List.mem_append]
    rcases List.mem_cons.1 hd with rfl | hd
    · exact .inl hn
    · exact .inr (mem_weightsAll hd hn)
theorem opensW_slice {α : Type} [Inhabited α] {fuel : Nat} {t e : TypeId} {d : Kd α} {ok wok : α → Prop} (ht : Try.prog.underlying t = some (.slice e)) (hc : Try.prog.cellsOf t = 1) (hz : d.sz = Try.prog.cellsOf e) (hd : ∀ n, n < fuel → OpensW enc w base spare held n e d ok wok) :
    OpensW enc w base spare held fuel t (Kd.slice e d) (okL ok) (fun l => l.length * Try.prog.bytesOf e ≤ reachBytes ∧ ∀ x ∈ l, wok x) := by
  refine ⟨hc, fun cs x h => ?_⟩
  rcases DataW.trod_slice ht h with ⟨rfl, _⟩ | ⟨a, len, cap, elems, rest, n, hfu, rfl, hxe, hb, hl, hm, hlen, hel, _, _⟩
  · exact ⟨[], ⟨none, 0, rfl, Nat.le_refl _, ⟨rfl, by simp, fun h => absurd h (Nat.lt_irrefl 0)⟩⟩, ⟨by simp, fun x hx => by simp at hx⟩, fun _ => ⟨by simp, fun x hx => by simp at hx⟩⟩
  · have hn : n < fuel := by omega
    obtain ⟨hsz, hop⟩ := hd n hn
    have hX : ∀ i : Nat, ∃ X : α, i < len → ∃ cs', cs'.length = d.sz ∧ (∀ j, j < d.sz → w.cell? ((a.add (i * d.sz)).add j) = cs'[j]?) ∧ d.K w X cs' ∧ ok X ∧ (Light t x.1 → wok X) := by
      intro i
      by_cases hlt : i < len
      · have key := hel i hlt
        rw [List.getElem?_eq_getElem (by omega)] at key
        obtain ⟨cs', h1, h2⟩ := Option.bind_eq_some_iff.1 key
        obtain ⟨X, h3, h4, h5⟩ := hop _ _ h2
        rw [hsz] at h1
        refine ⟨X, fun _ => ⟨cs', d.K_len h3, (World.cells?_some h1).2.2, h3, h4, fun hw => h5 fun m hm => hw m ?_⟩⟩
        subst hxe
        simp only [DataW.weights, ht, List.mem_cons, List.mem_append]
        exact .inr (.inl (mem_weightsAll (List.mem_map_of_mem (List.getElem_mem _)) hm))
      · exact ⟨default, fun h => absurd h hlt⟩
    obtain ⟨f, hf⟩ := Classical.skolem.1 hX
    have e1 : ((List.range len).map f).length = len := by simp
    have hml : maxLen = 9223372036854775807 := rfl
    refine ⟨(List.range len).map f, ⟨some a, cap, by rw [e1], by omega, ?_⟩, ⟨by rw [e1]; omega, ?_⟩, fun hw => ⟨?_, ?_⟩⟩
    · refine ⟨rfl, by rw [e1]; omega, fun _ => ⟨a, rfl, fun j p hj => ?_⟩⟩
      have hjl : j < len := by
        have := (List.getElem?_eq_some_iff.1 hj).1
        rw [e1] at this
        exact this
      have hp : p = f j := by
        rw [List.getElem?_map, List.getElem?_range hjl] at hj
        simpa using hj.symm
      subst hp
      obtain ⟨cs', hlc, hcc, hk, _⟩ := hf j hjl
      refine ⟨cs', hlc, hk, fun i u hu => ?_⟩
      have hi8 : i < d.sz := by
        have := (List.getElem?_eq_some_iff.1 hu).1
        rw [hlc] at this
        exact this
      have := hcc i hi8
      rw [hu] at this
      rw [Go.Deep.add_add] at this
      exact this
    · intro x hx
      obtain ⟨i, hi, rfl⟩ := List.mem_map.1 hx
      obtain ⟨_, _, _, _, h, _⟩ := hf i (List.mem_range.1 hi)
      exact h
    · rw [e1]
      subst hxe
      have := hw ((elems.length + rest.length) * Try.prog.bytesOf e) (by simp [DataW.weights, ht])
      refine Nat.le_trans ?_ this
      rw [← hlen]
      exact Nat.mul_le_mul_right _ (by omega)
    · intro x hx
      obtain ⟨i, hi, rfl⟩ := List.mem_map.1 hx
      obtain ⟨_, _, _, _, _, h⟩ := hf i (List.mem_range.1 hi)
      exact h hw
theorem fieldAtW {fs : Array Field} {t : TypeId} {fuel : Nat} {cs : List Value} {x : DataW H × List MemPlace} (ht : Try.prog.underlying t = some (.struct fs)) (h : DataW.trod enc Try.prog w base spare held fuel t cs = some x) :
    cs.length = Try.prog.cellsOf t ∧ ∃ n, n < fuel ∧ ∀ (i : Nat) (f : Field), fs[i]? = some f → ∃ y, DataW.trod enc Try.prog w base spare held n f.type ((cs.drop f.offset).take (Try.prog.cellsOf f.type)) = some y ∧ (Light t x.1 → Light f.type y.1) := by
  obtain ⟨xs, n, rfl, hx, hl, hlx, hf⟩ := DataW.trod_struct ht h
  refine ⟨hl, n, Nat.lt_succ_self n, fun i f hfi => ?_⟩
  have hi : i < xs.length := by rw [hlx]; exact (Array.getElem?_eq_some_iff.1 hfi).1
  refine ⟨xs[i], (hf i f hfi).trans (List.getElem?_eq_getElem hi), fun hw m hm => hw m ?_⟩
  subst hx
  simp only [DataW.weights, ht]
  exact DataW.weights_mem_each (j := i) (t := f.type) (d := xs[i].1) (by rw [List.getElem?_map]; simp [hfi]) (by rw [List.getElem?_map, List.getElem?_eq_getElem hi]; rfl) m hm
theorem field_openW {α : Type} {fs : Array Field} {n : Nat} {cs : List Value} {d : Kd α} {ok wok : α → Prop} {Z : Prop} (hf : ∀ (i : Nat) (f : Field), fs[i]? = some f → ∃ y, DataW.trod enc Try.prog w base spare held n f.type ((cs.drop f.offset).take (Try.prog.cellsOf f.type)) = some y ∧ (Z → Light f.type y.1))
    (i : Nat) (f : Field) (hi : fs[i]? = some f) (ho : OpensW enc w base spare held n f.type d ok wok) : ∃ X, d.K w X ((cs.drop f.offset).take d.sz) ∧ ok X ∧ (Z → wok X) := by
  obtain ⟨y, hy, hz⟩ := hf i f hi
  obtain ⟨hsz, hop⟩ := ho
  rw [hsz] at hy
  obtain ⟨X, h1, h2, h3⟩ := hop _ _ hy
  exact ⟨X, h1, h2, fun z => h3 (hz z)⟩
def wok133 (x : S133) : Prop := x.f1.length * Try.prog.bytesOf 5 ≤ reachBytes ∧ x.f2.length * Try.prog.bytesOf 5 ≤ reachBytes
theorem open133W (fuel : Nat) : OpensW enc w base spare held fuel 133 k133 ok133 wok133 := by
  refine ⟨by kernel_rfl, fun cs x h => ?_⟩
  obtain ⟨hl, n, hn, hf⟩ := fieldAtW Try.underlying133 h
  obtain ⟨X0, K0, o0, z0⟩ := field_openW hf 0 _ rfl (opens_to_w (opens_intI n Try.underlying3 (by kernel_rfl)))
  obtain ⟨X1, K1, o1, z1⟩ := field_openW hf 1 _ rfl (opensW_slice Try.underlying32 (by kernel_rfl) (by kernel_rfl) fun n hn => (opens_to_w (opens_int8 n Try.underlying5 (by kernel_rfl))))
  obtain ⟨X2, K2, o2, z2⟩ := field_openW hf 2 _ rfl (opensW_slice Try.underlying32 (by kernel_rfl) (by kernel_rfl) fun n hn => (opens_to_w (opens_int8 n Try.underlying5 (by kernel_rfl))))
  obtain ⟨X3, K3, o3, z3⟩ := field_openW hf 3 _ rfl (opens_to_w (opens_int8 n Try.underlying5 (by kernel_rfl)))
  obtain ⟨X4, K4, o4, z4⟩ := field_openW hf 4 _ rfl (opens_to_w (opens_int32 n Try.underlying35 (by kernel_rfl)))
  exact ⟨⟨X0, X1, X2, X3, X4⟩, whole (d := k133) (X := (⟨X0, X1, X2, X3, X4⟩ : S133)) (hl.trans (by kernel_rfl)) (pair_seg K0 (pair_seg K1 (pair_seg K2 (pair_seg K3 K4)))), ⟨o0, o1, o2, o3, o4⟩, fun hw => ⟨(z1 hw).1, (z2 hw).1⟩⟩
theorem open126W (fuel : Nat) : OpensW enc w base spare held fuel 126 (Kd.slice 133 k133) (okL ok133) (fun l => ∀ x ∈ l, x.f1.length ≤ 1000000000000000 ∧ x.f2.length ≤ 1000000000000000) := by
  obtain ⟨h1, h2⟩ := opensW_slice (enc := enc) (w := w) (base := base) (spare := spare) (held := held) (fuel := fuel) Try.underlying126 (by kernel_rfl) (by kernel_rfl) fun n hn => open133W n
  refine ⟨h1, fun cs x h => ?_⟩
  obtain ⟨X, a, b, c⟩ := h2 cs x h
  refine ⟨X, a, b, fun hw x hx => ?_⟩
  have := (c hw).2 x hx
  have e : Try.prog.bytesOf 5 = 1 := by kernel_rfl
  have e2 : reachBytes = 140737488351232 := by decide
  simp only [wok133, e, Nat.mul_one, e2] at this
  omega
end
end Go.Proofs.Ytkpjdkmggbelfaa.OpOpn2
