/- What comes in is read, and what it measures bounds how long its inner slices are. -/
import Derived.Test.YtkpjdkmggbelfaaHostOpn
import Derived.Test.YtkpjdkmggbelfaaRows
import Derived.SizedLaws
namespace Go.Proofs.Ytkpjdkmggbelfaa.HostOpn
open Go.ChangeShapes Go.WideShapes Go.RowKit Go.Proofs.YtkpjdkmggbelfaaW.PrintWords Go.Proofs.Ytkpjdkmggbelfaa.PHostPlays
set_option linter.unusedVariables false
/-- A measure of data: what it tells of a slice's length. -/
structure Meas (H : Type) where
  Z : TypeId → DataW H → Prop
  L : TypeId → Nat → Prop
  zero : ∀ e, L e 0
  slice : ∀ {t e : TypeId} {elems rest : List (DataW H)}, Try.prog.underlying t = some (.slice e) → Z t (.slice elems rest) → L e elems.length ∧ ∀ x ∈ elems, Z e x
  agg : ∀ {t : TypeId} {fs : Array Field} {xs : List (DataW H)}, Try.prog.underlying t = some (.struct fs) → Z t (.agg xs) → ∀ (i : Nat) (f : Field) (x : DataW H), fs[i]? = some f → xs[i]? = some x → Z f.type x
section
variable {H : Type} {enc : TypeId × Value → H} {w : World} {base : Nat} {spare : Nat → Bool} {held : Bool} (M : Meas H)
def OpensZ {α : Type} {H : Type} (M : Meas H) (enc : TypeId × Value → H) (w : World) (base : Nat) (spare : Nat → Bool) (held : Bool) (fuel : Nat) (t : TypeId) (d : Kd α) (ok wok : α → Prop) : Prop :=
  Try.prog.cellsOf t = d.sz ∧ ∀ cs x, DataW.trod enc Try.prog w base spare held fuel t cs = some x → ∃ X, d.K w X cs ∧ ok X ∧ (M.Z t x.1 → wok X)
theorem opens_to_z {α : Type} {fuel : Nat} {t : TypeId} {d : Kd α} {ok : α → Prop} (h : Opens enc w base spare held fuel t d ok) : OpensZ M enc w base spare held fuel t d ok (fun _ => True) :=
  ⟨h.1, fun cs x hx => by obtain ⟨X, h1, h2⟩ := h.2 cs x hx; exact ⟨X, h1, h2, fun _ => trivial⟩⟩
theorem opensZ_slice {α : Type} [Inhabited α] {fuel : Nat} {t e : TypeId} {d : Kd α} {ok wok : α → Prop} (ht : Try.prog.underlying t = some (.slice e)) (hc : Try.prog.cellsOf t = 1) (hz : d.sz = Try.prog.cellsOf e) (hd : ∀ n, n < fuel → OpensZ M enc w base spare held n e d ok wok) :
    OpensZ M enc w base spare held fuel t (Kd.slice e d) (okL ok) (fun l => M.L e l.length ∧ ∀ x ∈ l, wok x) := by
  refine ⟨hc, fun cs x h => ?_⟩
  rcases DataW.trod_slice ht h with ⟨rfl, _⟩ | ⟨a, len, cap, elems, rest, n, hfu, rfl, hxe, hb, hl, hm, hlen, hel, _, _⟩
  · exact ⟨[], ⟨none, 0, rfl, Nat.le_refl _, ⟨rfl, by simp, fun h => absurd h (Nat.lt_irrefl 0)⟩⟩, ⟨by simp, fun x hx => by simp at hx⟩, fun _ => ⟨M.zero _, fun x hx => by simp at hx⟩⟩
  · have hn : n < fuel := by omega
    obtain ⟨hsz, hop⟩ := hd n hn
    have hX : ∀ i : Nat, ∃ X : α, i < len → ∃ cs', cs'.length = d.sz ∧ (∀ j, j < d.sz → w.cell? ((a.add (i * d.sz)).add j) = cs'[j]?) ∧ d.K w X cs' ∧ ok X ∧ (M.Z t x.1 → wok X) := by
      intro i
      by_cases hlt : i < len
      · have key := hel i hlt
        rw [List.getElem?_eq_getElem (by omega)] at key
        obtain ⟨cs', h1, h2⟩ := Option.bind_eq_some_iff.1 key
        obtain ⟨X, h3, h4, h5⟩ := hop _ _ h2
        rw [hsz] at h1
        refine ⟨X, fun _ => ⟨cs', d.K_len h3, (World.cells?_some h1).2.2, h3, h4, fun hw => h5 ?_⟩⟩
        rw [hxe] at hw
        exact (M.slice ht hw).2 _ (List.mem_map_of_mem (List.getElem_mem _))
      · exact ⟨default, fun h => absurd h hlt⟩
    obtain ⟨f, hf⟩ := Classical.skolem.1 hX
    have e1 : ((List.range len).map f).length = len := by simp
    have hml : maxLen = 9223372036854775807 := rfl
    refine ⟨(List.range len).map f, ⟨some a, cap, by rw [e1], by omega, ?_⟩, ⟨by rw [e1]; omega, ?_⟩, fun hw => ⟨?_, ?_⟩⟩
    · refine ⟨rfl, by rw [e1]; omega, fun _ => ⟨a, rfl, fun j p hj => ?_⟩⟩
      have hjl : j < len := by
        have := (List.getElem?_eq_some_iff.1 hj).1
        rw [e1] at this
        exact this
      have hp : p = f j := by
        rw [List.getElem?_map, List.getElem?_range hjl] at hj
        simpa using hj.symm
      subst hp
      obtain ⟨cs', hlc, hcc, hk, _⟩ := hf j hjl
      refine ⟨cs', hlc, hk, fun i u hu => ?_⟩
      have hi8 : i < d.sz := by
        have := (List.getElem?_eq_some_iff.1 hu).1
        rw [hlc] at this
        exact this
      have := hcc i hi8
      rw [hu] at this
      rw [Go.Deep.add_add] at this
      exact this
    · intro x hx
      obtain ⟨i, hi, rfl⟩ := List.mem_map.1 hx
      obtain ⟨_, _, _, _, h, _⟩ := hf i (List.mem_range.1 hi)
      exact h
    · rw [e1]
      rw [hxe] at hw
      have := (M.slice ht hw).1
      rwa [List.length_map, hlen] at this
    · intro x hx
      obtain ⟨i, hi, rfl⟩ := List.mem_map.1 hx
      obtain ⟨_, _, _, _, _, h⟩ := hf i (List.mem_range.1 hi)
      exact h hw
theorem fieldAtZ {fs : Array Field} {t : TypeId} {fuel : Nat} {cs : List Value} {x : DataW H × List MemPlace} (ht : Try.prog.underlying t = some (.struct fs)) (h : DataW.trod enc Try.prog w base spare held fuel t cs = some x) :
    cs.length = Try.prog.cellsOf t ∧ ∃ n, n < fuel ∧ ∀ (i : Nat) (f : Field), fs[i]? = some f → ∃ y, DataW.trod enc Try.prog w base spare held n f.type ((cs.drop f.offset).take (Try.prog.cellsOf f.type)) = some y ∧ (M.Z t x.1 → M.Z f.type y.1) := by
  obtain ⟨xs, n, rfl, hx, hl, hlx, hf⟩ := DataW.trod_struct ht h
  refine ⟨hl, n, Nat.lt_succ_self n, fun i f hfi => ?_⟩
  have hi : i < xs.length := by rw [hlx]; exact (Array.getElem?_eq_some_iff.1 hfi).1
  refine ⟨xs[i], (hf i f hfi).trans (List.getElem?_eq_getElem hi), fun hw => ?_⟩
  rw [hx] at hw
  exact M.agg ht hw i f xs[i].1 hfi (by rw [List.getElem?_map, List.getElem?_eq_getElem hi]; rfl)
theorem field_openZ {α : Type} {fs : Array Field} {n : Nat} {cs : List Value} {d : Kd α} {ok wok : α → Prop} {Z : Prop} (hf : ∀ (i : Nat) (f : Field), fs[i]? = some f → ∃ y, DataW.trod enc Try.prog w base spare held n f.type ((cs.drop f.offset).take (Try.prog.cellsOf f.type)) = some y ∧ (Z → M.Z f.type y.1))
    (i : Nat) (f : Field) (hi : fs[i]? = some f) (ho : OpensZ M enc w base spare held n f.type d ok wok) : ∃ X, d.K w X ((cs.drop f.offset).take d.sz) ∧ ok X ∧ (Z → wok X) := by
  obtain ⟨y, hy, hz⟩ := hf i f hi
  obtain ⟨hsz, hop⟩ := ho
  rw [hsz] at hy
  obtain ⟨X, h1, h2, h3⟩ := hop _ _ hy
  exact ⟨X, h1, h2, fun z => h3 (hz z)⟩
def zok109 (x : S109) : Prop := M.L 113 x.f1.length
def zok156 (x : S156) : Prop := M.L 113 x.f1.length
def zok77 (x : S77) : Prop := (M.L 109 x.f0.length ∧ ∀ y ∈ x.f0, zok109 M y) ∧ M.L 4 x.f1.length
def zok82 (x : S82) : Prop := M.L 156 x.f6.length ∧ ∀ y ∈ x.f6, zok156 M y
def zok84 (x : S84) : Prop := zok77 M x.f1 ∧ zok82 M x.f2
theorem openZ109 (fuel : Nat) : OpensZ M enc w base spare held fuel 109 k109 ok109 (zok109 M) := by
  refine ⟨by kernel_rfl, fun cs x h => ?_⟩
  obtain ⟨hl, n, hn, hf⟩ := fieldAtZ M Try.underlying109 h
  obtain ⟨X0, K0, o0, z0⟩ := field_openZ M hf 0 _ rfl (opens_to_z M (opens_bool n Try.underlying4 (by kernel_rfl)))
  obtain ⟨X1, K1, o1, z1⟩ := field_openZ M hf 1 _ rfl (opensZ_slice M Try.underlying78 (by kernel_rfl) (by kernel_rfl) fun n hn => opens_to_z M (opens_int64 n Try.underlying113 (by kernel_rfl)))
  exact ⟨⟨X0, X1⟩, whole (d := k109) (X := (⟨X0, X1⟩ : S109)) (hl.trans (by kernel_rfl)) (pair_seg K0 K1), ⟨o0, o1⟩, fun hw => (z1 hw).1⟩
theorem openZ156 (fuel : Nat) : OpensZ M enc w base spare held fuel 156 k156 ok156 (zok156 M) := by
  refine ⟨by kernel_rfl, fun cs x h => ?_⟩
  obtain ⟨hl, n, hn, hf⟩ := fieldAtZ M Try.underlying156 h
  obtain ⟨X0, K0, o0, z0⟩ := field_openZ M hf 0 _ rfl (opens_to_z M (opens_string n Try.underlying9 (by kernel_rfl)))
  obtain ⟨X1, K1, o1, z1⟩ := field_openZ M hf 1 _ rfl (opensZ_slice M Try.underlying78 (by kernel_rfl) (by kernel_rfl) fun n hn => opens_to_z M (opens_int64 n Try.underlying113 (by kernel_rfl)))
  exact ⟨⟨X0, X1⟩, whole (d := k156) (X := (⟨X0, X1⟩ : S156)) (hl.trans (by kernel_rfl)) (pair_seg K0 K1), ⟨o0, o1⟩, fun hw => (z1 hw).1⟩
theorem openZ77 (fuel : Nat) : OpensZ M enc w base spare held fuel 77 k77 ok77 (zok77 M) := by
  refine ⟨by kernel_rfl, fun cs x h => ?_⟩
  obtain ⟨hl, n, hn, hf⟩ := fieldAtZ M Try.underlying77 h
  obtain ⟨X0, K0, o0, z0⟩ := field_openZ M hf 0 _ rfl (opensZ_slice M Try.underlying75 (by kernel_rfl) (by kernel_rfl) fun n hn => openZ109 M n)
  obtain ⟨X1, K1, o1, z1⟩ := field_openZ M hf 1 _ rfl (opensZ_slice M Try.underlying71 (by kernel_rfl) (by kernel_rfl) fun n hn => opens_to_z M (opens_bool n Try.underlying4 (by kernel_rfl)))
  exact ⟨⟨X0, X1⟩, whole (d := k77) (X := (⟨X0, X1⟩ : S77)) (hl.trans (by kernel_rfl)) (pair_seg K0 K1), ⟨o0, o1⟩, fun hw => ⟨z0 hw, (z1 hw).1⟩⟩
theorem openZ82 (fuel : Nat) : OpensZ M enc w base spare held fuel 82 k82 ok82 (zok82 M) := by
  refine ⟨by kernel_rfl, fun cs x h => ?_⟩
  obtain ⟨hl, n, hn, hf⟩ := fieldAtZ M Try.underlying82 h
  obtain ⟨X0, K0, o0, z0⟩ := field_openZ M hf 0 _ rfl (opens_to_z M (opens_intI n Try.underlying3 (by kernel_rfl)))
  obtain ⟨X1, K1, o1, z1⟩ := field_openZ M hf 1 _ rfl (opensZ_slice M Try.underlying78 (by kernel_rfl) (by kernel_rfl) fun n hn => opens_to_z M (opens_int64 n Try.underlying113 (by kernel_rfl)))
  obtain ⟨X2, K2, o2, z2⟩ := field_openZ M hf 2 _ rfl (opens_to_z M (opens_intI n Try.underlying79 (by kernel_rfl)))
  obtain ⟨X3, K3, o3, z3⟩ := field_openZ M hf 3 _ rfl (opens_to_z M (opens_intI n Try.underlying3 (by kernel_rfl)))
  obtain ⟨X4, K4, o4, z4⟩ := field_openZ M hf 4 _ rfl (opens_to_z M (opens_intI n Try.underlying3 (by kernel_rfl)))
  obtain ⟨X5, K5, o5, z5⟩ := field_openZ M hf 5 _ rfl (opens_to_z M (opens_intI n Try.underlying3 (by kernel_rfl)))
  obtain ⟨X6, K6, o6, z6⟩ := field_openZ M hf 6 _ rfl (opensZ_slice M Try.underlying80 (by kernel_rfl) (by kernel_rfl) fun n hn => openZ156 M n)
  exact ⟨⟨X0, X1, X2, X3, X4, X5, X6⟩, whole (d := k82) (X := (⟨X0, X1, X2, X3, X4, X5, X6⟩ : S82)) (hl.trans (by kernel_rfl)) (pair_seg K0 (pair_seg K1 (pair_seg K2 (pair_seg K3 (pair_seg K4 (pair_seg K5 K6)))))), ⟨o0, o1, o2, o3, o4, o5, o6⟩, fun hw => z6 hw⟩
theorem openZ84 (fuel : Nat) : OpensZ M enc w base spare held fuel 84 k84 ok84 (zok84 M) := by
  refine ⟨by kernel_rfl, fun cs x h => ?_⟩
  obtain ⟨hl, n, hn, hf⟩ := fieldAtZ M Try.underlying84 h
  obtain ⟨X0, K0, o0, z0⟩ := field_openZ M hf 0 _ rfl (opens_to_z M (opens_intI n Try.underlying3 (by kernel_rfl)))
  obtain ⟨X1, K1, o1, z1⟩ := field_openZ M hf 1 _ rfl (openZ77 M n)
  obtain ⟨X2, K2, o2, z2⟩ := field_openZ M hf 2 _ rfl (openZ82 M n)
  exact ⟨⟨X0, X1, X2⟩, whole (d := k84) (X := (⟨X0, X1, X2⟩ : S84)) (hl.trans (by kernel_rfl)) (pair_seg K0 (pair_seg K1 K2)), ⟨o0, o1, o2⟩, fun hw => ⟨z1 hw, z2 hw⟩⟩
theorem openZ65 (fuel : Nat) : OpensZ M enc w base spare held fuel 65 (Kd.slice 84 k84) (okL ok84) (fun l => M.L 84 l.length ∧ ∀ x ∈ l, zok84 M x) :=
  opensZ_slice M Try.underlying65 (by kernel_rfl) (by kernel_rfl) fun n hn => openZ84 M n
end
/-- The bulk of what comes in. -/
theorem bulk_mem {H : Type} {d : DataW H} : ∀ {l : List (DataW H)}, d ∈ l → Rows.uptoBulk d ≤ Rows.uptoBulkAll l
  | x :: r, h => by
    simp only [Rows.uptoBulkAll]
    rcases List.mem_cons.1 h with rfl | h
    · omega
    · have := bulk_mem h; omega
theorem bulk_pos {H : Type} (d : DataW H) : 1 ≤ Rows.uptoBulk d := by
  cases d with
  | lit l => cases l <;> simp [Rows.uptoBulk]
  | nil => simp [Rows.uptoBulk]
  | ptr d => simp [Rows.uptoBulk]
  | slice elems spare => simp [Rows.uptoBulk]
  | agg parts => simp [Rows.uptoBulk]
  | iface t d => simp [Rows.uptoBulk]
  | map entries => simp [Rows.uptoBulk]
  | held h => simp [Rows.uptoBulk]
theorem bulk_len {H : Type} : ∀ l : List (DataW H), l.length ≤ Rows.uptoBulkAll l
  | [] => by simp [Rows.uptoBulkAll]
  | x :: r => by
    have := bulk_pos x
    have := bulk_len r
    simp only [Rows.uptoBulkAll, List.length_cons]
    omega
def bulkM (H : Type) (B : Nat) : Meas H where
  Z _ d := Rows.uptoBulk d ≤ B
  L _ n := n ≤ B
  zero _ := Nat.zero_le _
  slice := by
    intro t e elems rest _ h
    simp only [Rows.uptoBulk] at h
    have := bulk_len elems
    exact ⟨by omega, fun x hx => by have := bulk_mem hx; omega⟩
  agg := by
    intro t fs xs _ h i f x _ hx
    simp only [Rows.uptoBulk] at h
    have := bulk_mem (List.mem_of_getElem? hx)
    omega
end Go.Proofs.Ytkpjdkmggbelfaa.HostOpn
