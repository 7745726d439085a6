/- What comes in is read: of each type's cells there is a datum of its kind, and its numbers lie in their ranges. -/
import Derived.Test.YtjhdnlgbboboiaaBase
import Derived.Deep.Slices
import Derived.ChangeArms
import Derived.WalkKit
import Derived.ProofKit
import Derived.OpenShut
namespace Go.Proofs.Ytjhdnlgbboboiaa.ScanOpn
open Go.ChangeShapes Go.WideShapes Go.RowKit Go.Proofs.YtjhdnlgbboboiaaW.PrintWords Go.Proofs.Ytjhdnlgbboboiaa.Base
set_option linter.unusedVariables false
def okAny (b : Bool) : Prop := True
def okU8 (n : Int) : Prop := 0 ≤ n ∧ n < 256
def okU32 (n : Int) : Prop := 0 ≤ n ∧ n < 4294967296
def okU64 (n : Int) : Prop := 0 ≤ n ∧ n < 18446744073709551616
def okI64 (n : Int) : Prop := -9223372036854775808 ≤ n ∧ n < 9223372036854775808
def okStr (s : ByteArray) : Prop := s.size ≤ 9223372036854775807
def okL {α : Type} (p : α → Prop) (l : List α) : Prop := l.length ≤ 9223372036854775807 ∧ ∀ x ∈ l, p x
section
variable {H : Type} {enc : TypeId × Value → H} {w : World} {base : Nat} {spare : Nat → Bool} {held : Bool}
/-- What is read of a type is of a kind. -/
def Opens {α : Type} {H : Type} (enc : TypeId × Value → H) (w : World) (base : Nat) (spare : Nat → Bool) (held : Bool) (fuel : Nat) (t : TypeId) (d : Kd α) (ok : α → Prop) : Prop :=
  Try.prog.cellsOf t = d.sz ∧ ∀ cs x, DataW.trod enc Try.prog w base spare held fuel t cs = some x → ∃ X, d.K w X cs ∧ ok X
theorem opens_int8 (n : Nat) {t : TypeId} (ht : Try.prog.underlying t = some (.int .u8)) (hc : Try.prog.cellsOf t = 1) : Opens enc w base spare held n t (Kd.int .u8) okU8 := by
  refine ⟨hc, fun cs x h => ?_⟩
  obtain ⟨k, rfl, _, hw⟩ := DataW.trod_int ht h
  refine ⟨k, rfl, ?_⟩
  simp only [Lit.wf, Bool.and_eq_true, decide_eq_true_eq] at hw
  have h1 : IntKind.u8.min = 0 := rfl
  have h2 : IntKind.u8.max = 255 := rfl
  rw [h1, h2] at hw
  exact ⟨hw.1, by omega⟩
theorem opens_int32 (n : Nat) {t : TypeId} (ht : Try.prog.underlying t = some (.int .u32)) (hc : Try.prog.cellsOf t = 1) : Opens enc w base spare held n t (Kd.int .u32) okU32 := by
  refine ⟨hc, fun cs x h => ?_⟩
  obtain ⟨k, rfl, _, hw⟩ := DataW.trod_int ht h
  refine ⟨k, rfl, ?_⟩
  simp only [Lit.wf, Bool.and_eq_true, decide_eq_true_eq] at hw
  have h1 : IntKind.u32.min = 0 := rfl
  have h2 : IntKind.u32.max = 4294967295 := rfl
  rw [h1, h2] at hw
  exact ⟨hw.1, by omega⟩
theorem opens_int64 (n : Nat) {t : TypeId} (ht : Try.prog.underlying t = some (.int .u64)) (hc : Try.prog.cellsOf t = 1) : Opens enc w base spare held n t (Kd.int .u64) okU64 := by
  refine ⟨hc, fun cs x h => ?_⟩
  obtain ⟨k, rfl, _, hw⟩ := DataW.trod_int ht h
  refine ⟨k, rfl, ?_⟩
  simp only [Lit.wf, Bool.and_eq_true, decide_eq_true_eq] at hw
  have h1 : IntKind.u64.min = 0 := rfl
  have h2 : IntKind.u64.max = 18446744073709551615 := rfl
  rw [h1, h2] at hw
  exact ⟨hw.1, by omega⟩
theorem opens_intI (n : Nat) {t : TypeId} (ht : Try.prog.underlying t = some (.int .i64)) (hc : Try.prog.cellsOf t = 1) : Opens enc w base spare held n t (Kd.int .i64) okI64 := by
  refine ⟨hc, fun cs x h => ?_⟩
  obtain ⟨k, rfl, _, hw⟩ := DataW.trod_int ht h
  refine ⟨k, rfl, ?_⟩
  simp only [Lit.wf, Bool.and_eq_true, decide_eq_true_eq] at hw
  have h1 : IntKind.i64.min = -9223372036854775808 := rfl
  have h2 : IntKind.i64.max = 9223372036854775807 := rfl
  rw [h1, h2] at hw
  exact ⟨hw.1, by omega⟩
theorem opens_bool (n : Nat) {t : TypeId} (ht : Try.prog.underlying t = some .bool) (hc : Try.prog.cellsOf t = 1) : Opens enc w base spare held n t Kd.bool okAny := by
  refine ⟨hc, fun cs x h => ?_⟩
  obtain ⟨b, rfl, _⟩ := DataW.trod_bool ht h
  exact ⟨b, rfl, trivial⟩
theorem opens_string (n : Nat) {t : TypeId} (ht : Try.prog.underlying t = some .string) (hc : Try.prog.cellsOf t = 1) : Opens enc w base spare held n t Kd.string okStr := by
  refine ⟨hc, fun cs x h => ?_⟩
  obtain ⟨s, rfl, _, hm⟩ := DataW.trod_string ht h
  exact ⟨s, rfl, hm⟩
theorem opens_slice {α : Type} [Inhabited α] {fuel : Nat} {t e : TypeId} {d : Kd α} {ok : α → Prop} (ht : Try.prog.underlying t = some (.slice e)) (hc : Try.prog.cellsOf t = 1) (hz : d.sz = Try.prog.cellsOf e) (hd : ∀ n, n < fuel → Opens enc w base spare held n e d ok) :
    Opens enc w base spare held fuel t (Kd.slice e d) (okL ok) := by
  refine ⟨hc, fun cs x h => ?_⟩
  rcases DataW.trod_slice ht h with ⟨rfl, _⟩ | ⟨a, len, cap, elems, rest, n, hfu, rfl, _, hb, hl, hm, hlen, hel, _, _⟩
  · exact ⟨[], ⟨none, 0, rfl, Nat.le_refl _, ⟨rfl, by simp, fun h => absurd h (Nat.lt_irrefl 0)⟩⟩, by simp, fun x hx => by simp at hx⟩
  · have hn : n < fuel := by omega
    obtain ⟨hsz, hop⟩ := hd n hn
    have hX : ∀ i : Nat, ∃ X : α, i < len → ∃ cs', cs'.length = d.sz ∧ (∀ j, j < d.sz → w.cell? ((a.add (i * d.sz)).add j) = cs'[j]?) ∧ d.K w X cs' ∧ ok X := by
      intro i
      by_cases hlt : i < len
      · have key := hel i hlt
        rw [List.getElem?_eq_getElem (by omega)] at key
        obtain ⟨cs', h1, h2⟩ := Option.bind_eq_some_iff.1 key
        obtain ⟨X, h3, h4⟩ := hop _ _ h2
        rw [hsz] at h1
        exact ⟨X, fun _ => ⟨cs', d.K_len h3, (World.cells?_some h1).2.2, h3, h4⟩⟩
      · exact ⟨default, fun h => absurd h hlt⟩
    obtain ⟨f, hf⟩ := Classical.skolem.1 hX
    have e1 : ((List.range len).map f).length = len := by simp
    have hml : maxLen = 9223372036854775807 := rfl
    refine ⟨(List.range len).map f, ⟨some a, cap, by rw [e1], by omega, ?_⟩, by rw [e1]; omega, ?_⟩
    · refine ⟨rfl, by rw [e1]; omega, fun _ => ⟨a, rfl, fun j p hj => ?_⟩⟩
      have hjl : j < len := by
        have := (List.getElem?_eq_some_iff.1 hj).1
        rw [e1] at this
        exact this
      have hp : p = f j := by
        rw [List.getElem?_map, List.getElem?_range hjl] at hj
        simpa using hj.symm
      subst hp
      obtain ⟨cs', hlc, hcc, hk, _⟩ := hf j hjl
      refine ⟨cs', hlc, hk, fun i u hu => ?_⟩
      have hi8 : i < d.sz := by
        have := (List.getElem?_eq_some_iff.1 hu).1
        rw [hlc] at this
        exact this
      have := hcc i hi8
      rw [hu] at this
      rw [Go.Deep.add_add] at this
      exact this
    · intro x hx
      obtain ⟨i, hi, rfl⟩ := List.mem_map.1 hx
      obtain ⟨_, _, _, _, h⟩ := hf i (List.mem_range.1 hi)
      exact h
theorem fieldAt {fs : Array Field} {t : TypeId} {fuel : Nat} {cs : List Value} {x : DataW H × List MemPlace} (ht : Try.prog.underlying t = some (.struct fs)) (h : DataW.trod enc Try.prog w base spare held fuel t cs = some x) :
    cs.length = Try.prog.cellsOf t ∧ ∃ n, n < fuel ∧ ∀ (i : Nat) (f : Field), fs[i]? = some f → ∃ y, DataW.trod enc Try.prog w base spare held n f.type ((cs.drop f.offset).take (Try.prog.cellsOf f.type)) = some y := by
  obtain ⟨xs, n, rfl, _, hl, hlx, hf⟩ := DataW.trod_struct ht h
  refine ⟨hl, n, Nat.lt_succ_self n, fun i f hfi => ?_⟩
  have hi : i < xs.length := by rw [hlx]; exact (Array.getElem?_eq_some_iff.1 hfi).1
  exact ⟨xs[i], (hf i f hfi).trans (List.getElem?_eq_getElem hi)⟩
theorem field_open {α : Type} {fs : Array Field} {n : Nat} {cs : List Value} {d : Kd α} {ok : α → Prop} (hf : ∀ (i : Nat) (f : Field), fs[i]? = some f → ∃ y, DataW.trod enc Try.prog w base spare held n f.type ((cs.drop f.offset).take (Try.prog.cellsOf f.type)) = some y)
    (i : Nat) (f : Field) (hi : fs[i]? = some f) (ho : Opens enc w base spare held n f.type d ok) : ∃ X, d.K w X ((cs.drop f.offset).take d.sz) ∧ ok X := by
  obtain ⟨y, hy⟩ := hf i f hi
  obtain ⟨hsz, hop⟩ := ho
  rw [hsz] at hy
  exact hop _ _ hy
theorem pair_seg {α β : Type} {a : Kd α} {b : Kd β} {cs : List Value} {off : Nat} {X : α} {Y : β} (h0 : a.K w X ((cs.drop off).take a.sz)) (h1 : b.K w Y ((cs.drop (off + a.sz)).take b.sz)) : (Kd.pair a b).K w (X, Y) ((cs.drop off).take (a.sz + b.sz)) :=
  ⟨_, _, by rw [List.take_add, List.drop_drop], h0, h1⟩
theorem whole {α : Type} {d : Kd α} {cs : List Value} {X : α} (hl : cs.length = d.sz) (h : d.K w X ((cs.drop 0).take d.sz)) : d.K w X cs := by
  rw [List.drop_zero, List.take_of_length_le (by omega)] at h
  exact h
/-! #### type 59 -/
structure S59 where
  f0 : Int
  f1 : Int
def z59 : S59 := ⟨(0 : Int), (0 : Int)⟩
instance : Inhabited S59 := ⟨z59⟩
def k59 : Kd S59 := Kd.iso (Kd.pair (Kd.int .i64) (Kd.int .i64)) (fun x : S59 => (x.f0, x.f1))
theorem k59_open {w : World} {x : S59} {cs : List Value} (h : k59.K w x cs) : cs = [.int .i64 x.f0, .int .i64 x.f1] := by
  obtain ⟨_, _, rfl, rfl, rfl⟩ := h
  exact rfl
theorem k59_mk (w : World) (x : S59) : k59.K w x [.int .i64 x.f0, .int .i64 x.f1] := ⟨[.int .i64 x.f0], [.int .i64 x.f1], rfl, rfl, rfl⟩
def ok59 (x : S59) : Prop := okI64 x.f0 ∧ okI64 x.f1
theorem open59 (fuel : Nat) : Opens enc w base spare held fuel 59 k59 ok59 := by
  refine ⟨by kernel_rfl, fun cs x h => ?_⟩
  obtain ⟨hl, n, hn, hf⟩ := fieldAt Try.underlying59 h
  obtain ⟨X0, K0, o0⟩ := field_open hf 0 _ rfl (opens_intI n Try.underlying3 (by kernel_rfl))
  obtain ⟨X1, K1, o1⟩ := field_open hf 1 _ rfl (opens_intI n Try.underlying3 (by kernel_rfl))
  exact ⟨⟨X0, X1⟩, whole (d := k59) (X := (⟨X0, X1⟩ : S59)) (hl.trans (by kernel_rfl)) (pair_seg K0 K1), o0, o1⟩
end
end Go.Proofs.Ytjhdnlgbboboiaa.ScanOpn
