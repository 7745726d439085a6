/- What comes in is read: of each type's cells there is a datum of its kind, and its numbers lie in their ranges. -/
import Derived.Test.YtkpjdkmggbelfaaPLinkNamesx0
import Derived.Deep.Slices
import Derived.ChangeArms
import Derived.WalkKit
import Derived.ProofKit
import Derived.OpenShut
namespace Go.Proofs.Ytkpjdkmggbelfaa.Opn
open Go.ChangeShapes Go.WideShapes Go.RowKit Go.Proofs.YtkpjdkmggbelfaaW.PrintWords Go.Proofs.Ytkpjdkmggbelfaa.PLinkNames
set_option linter.unusedVariables false
def okAny (b : Bool) : Prop := True
def okU8 (n : Int) : Prop := 0 ≤ n ∧ n < 256
def okU32 (n : Int) : Prop := 0 ≤ n ∧ n < 4294967296
def okU64 (n : Int) : Prop := 0 ≤ n ∧ n < 18446744073709551616
def okI64 (n : Int) : Prop := -9223372036854775808 ≤ n ∧ n < 9223372036854775808
def okStr (s : ByteArray) : Prop := s.size ≤ 9223372036854775807
def okL {α : Type} (p : α → Prop) (l : List α) : Prop := l.length ≤ 9223372036854775807 ∧ ∀ x ∈ l, p x
section
variable {H : Type} {enc : TypeId × Value → H} {w : World} {base : Nat} {spare : Nat → Bool} {held : Bool}
/-- What is read of a type is of a kind. -/
def Opens {α : Type} {H : Type} (enc : TypeId × Value → H) (w : World) (base : Nat) (spare : Nat → Bool) (held : Bool) (fuel : Nat) (t : TypeId) (d : Kd α) (ok : α → Prop) : Prop :=
  Try.prog.cellsOf t = d.sz ∧ ∀ cs x, DataW.trod enc Try.prog w base spare held fuel t cs = some x → ∃ X, d.K w X cs ∧ ok X
theorem opens_int8 (n : Nat) {t : TypeId} (ht : Try.prog.underlying t = some (.int .u8)) (hc : Try.prog.cellsOf t = 1) : Opens enc w base spare held n t (Kd.int .u8) okU8 := by
  refine ⟨hc, fun cs x h => ?_⟩
  obtain ⟨k, rfl, _, hw⟩ := DataW.trod_int ht h
  refine ⟨k, rfl, ?_⟩
  simp only [Lit.wf, Bool.and_eq_true, decide_eq_true_eq] at hw
  have h1 : IntKind.u8.min = 0 := rfl
  have h2 : IntKind.u8.max = 255 := rfl
  rw [h1, h2] at hw
  exact ⟨hw.1, by omega⟩
theorem opens_int32 (n : Nat) {t : TypeId} (ht : Try.prog.underlying t = some (.int .u32)) (hc : Try.prog.cellsOf t = 1) : Opens enc w base spare held n t (Kd.int .u32) okU32 := by
  refine ⟨hc, fun cs x h => ?_⟩
  obtain ⟨k, rfl, _, hw⟩ := DataW.trod_int ht h
  refine ⟨k, rfl, ?_⟩
  simp only [Lit.wf, Bool.and_eq_true, decide_eq_true_eq] at hw
  have h1 : IntKind.u32.min = 0 := rfl
  have h2 : IntKind.u32.max = 4294967295 := rfl
  rw [h1, h2] at hw
  exact ⟨hw.1, by omega⟩
theorem opens_int64 (n : Nat) {t : TypeId} (ht : Try.prog.underlying t = some (.int .u64)) (hc : Try.prog.cellsOf t = 1) : Opens enc w base spare held n t (Kd.int .u64) okU64 := by
  refine ⟨hc, fun cs x h => ?_⟩
  obtain ⟨k, rfl, _, hw⟩ := DataW.trod_int ht h
  refine ⟨k, rfl, ?_⟩
  simp only [Lit.wf, Bool.and_eq_true, decide_eq_true_eq] at hw
  have h1 : IntKind.u64.min = 0 := rfl
  have h2 : IntKind.u64.max = 18446744073709551615 := rfl
  rw [h1, h2] at hw
  exact ⟨hw.1, by omega⟩
theorem opens_intI (n : Nat) {t : TypeId} (ht : Try.prog.underlying t = some (.int .i64)) (hc : Try.prog.cellsOf t = 1) : Opens enc w base spare held n t (Kd.int .i64) okI64 := by
  refine ⟨hc, fun cs x h => ?_⟩
  obtain ⟨k, rfl, _, hw⟩ := DataW.trod_int ht h
  refine ⟨k, rfl, ?_⟩
  simp only [Lit.wf, Bool.and_eq_true, decide_eq_true_eq] at hw
  have h1 : IntKind.i64.min = -9223372036854775808 := rfl
  have h2 : IntKind.i64.max = 9223372036854775807 := rfl
  rw [h1, h2] at hw
  exact ⟨hw.1, by omega⟩
theorem opens_bool (n : Nat) {t : TypeId} (ht : Try.prog.underlying t = some .bool) (hc : Try.prog.cellsOf t = 1) : Opens enc w base spare held n t Kd.bool okAny := by
  refine ⟨hc, fun cs x h => ?_⟩
  obtain ⟨b, rfl, _⟩ := DataW.trod_bool ht h
  exact ⟨b, rfl, trivial⟩
theorem opens_string (n : Nat) {t : TypeId} (ht : Try.prog.underlying t = some .string) (hc : Try.prog.cellsOf t = 1) : Opens enc w base spare held n t Kd.string okStr := by
  refine ⟨hc, fun cs x h => ?_⟩
  obtain ⟨s, rfl, _, hm⟩ := DataW.trod_string ht h
  exact ⟨s, rfl, hm⟩
theorem opens_slice {α : Type} [Inhabited α] {fuel : Nat} {t e : TypeId} {d : Kd α} {ok : α → Prop} (ht : Try.prog.underlying t = some (.slice e)) (hc : Try.prog.cellsOf t = 1) (hz : d.sz = Try.prog.cellsOf e) (hd : ∀ n, n < fuel → Opens enc w base spare held n e d ok) :
    Opens enc w base spare held fuel t (Kd.slice e d) (okL ok) := by
  refine ⟨hc, fun cs x h => ?_⟩
  rcases DataW.trod_slice ht h with ⟨rfl, _⟩ | ⟨a, len, cap, elems, rest, n, hfu, rfl, _, hb, hl, hm, hlen, hel, _, _⟩
  · exact ⟨[], ⟨none, 0, rfl, Nat.le_refl _, ⟨rfl, by simp, fun h => absurd h (Nat.lt_irrefl 0)⟩⟩, by simp, fun x hx => by simp at hx⟩
  · have hn : n < fuel := by omega
    obtain ⟨hsz, hop⟩ := hd n hn
    have hX : ∀ i : Nat, ∃ X : α, i < len → ∃ cs', cs'.length = d.sz ∧ (∀ j, j < d.sz → w.cell? ((a.add (i * d.sz)).add j) = cs'[j]?) ∧ d.K w X cs' ∧ ok X := by
      intro i
      by_cases hlt : i < len
      · have key := hel i hlt
        rw [List.getElem?_eq_getElem (by omega)] at key
        obtain ⟨cs', h1, h2⟩ := Option.bind_eq_some_iff.1 key
        obtain ⟨X, h3, h4⟩ := hop _ _ h2
        rw [hsz] at h1
        exact ⟨X, fun _ => ⟨cs', d.K_len h3, (World.cells?_some h1).2.2, h3, h4⟩⟩
      · exact ⟨default, fun h => absurd h hlt⟩
    obtain ⟨f, hf⟩ := Classical.skolem.1 hX
    have e1 : ((List.range len).map f).length = len := by simp
    have hml : maxLen = 9223372036854775807 := rfl
    refine ⟨(List.range len).map f, ⟨some a, cap, by rw [e1], by omega, ?_⟩, by rw [e1]; omega, ?_⟩
    · refine ⟨rfl, by rw [e1]; omega, fun _ => ⟨a, rfl, fun j p hj => ?_⟩⟩
      have hjl : j < len := by
        have := (List.getElem?_eq_some_iff.1 hj).1
        rw [e1] at this
        exact this
      have hp : p = f j := by
        rw [List.getElem?_map, List.getElem?_range hjl] at hj
        simpa using hj.symm
      subst hp
      obtain ⟨cs', hlc, hcc, hk, _⟩ := hf j hjl
      refine ⟨cs', hlc, hk, fun i u hu => ?_⟩
      have hi8 : i < d.sz := by
        have := (List.getElem?_eq_some_iff.1 hu).1
        rw [hlc] at this
        exact this
      have := hcc i hi8
      rw [hu] at this
      rw [Go.Deep.add_add] at this
      exact this
    · intro x hx
      obtain ⟨i, hi, rfl⟩ := List.mem_map.1 hx
      obtain ⟨_, _, _, _, h⟩ := hf i (List.mem_range.1 hi)
      exact h
theorem fieldAt {fs : Array Field} {t : TypeId} {fuel : Nat} {cs : List Value} {x : DataW H × List MemPlace} (ht : Try.prog.underlying t = some (.struct fs)) (h : DataW.trod enc Try.prog w base spare held fuel t cs = some x) :
    cs.length = Try.prog.cellsOf t ∧ ∃ n, n < fuel ∧ ∀ (i : Nat) (f : Field), fs[i]? = some f → ∃ y, DataW.trod enc Try.prog w base spare held n f.type ((cs.drop f.offset).take (Try.prog.cellsOf f.type)) = some y := by
  obtain ⟨xs, n, rfl, _, hl, hlx, hf⟩ := DataW.trod_struct ht h
  refine ⟨hl, n, Nat.lt_succ_self n, fun i f hfi => ?_⟩
  have hi : i < xs.length := by rw [hlx]; exact (Array.getElem?_eq_some_iff.1 hfi).1
  exact ⟨xs[i], (hf i f hfi).trans (List.getElem?_eq_getElem hi)⟩
theorem field_open {α : Type} {fs : Array Field} {n : Nat} {cs : List Value} {d : Kd α} {ok : α → Prop} (hf : ∀ (i : Nat) (f : Field), fs[i]? = some f → ∃ y, DataW.trod enc Try.prog w base spare held n f.type ((cs.drop f.offset).take (Try.prog.cellsOf f.type)) = some y)
    (i : Nat) (f : Field) (hi : fs[i]? = some f) (ho : Opens enc w base spare held n f.type d ok) : ∃ X, d.K w X ((cs.drop f.offset).take d.sz) ∧ ok X := by
  obtain ⟨y, hy⟩ := hf i f hi
  obtain ⟨hsz, hop⟩ := ho
  rw [hsz] at hy
  exact hop _ _ hy
theorem pair_seg {α β : Type} {a : Kd α} {b : Kd β} {cs : List Value} {off : Nat} {X : α} {Y : β} (h0 : a.K w X ((cs.drop off).take a.sz)) (h1 : b.K w Y ((cs.drop (off + a.sz)).take b.sz)) : (Kd.pair a b).K w (X, Y) ((cs.drop off).take (a.sz + b.sz)) :=
  ⟨_, _, by rw [List.take_add, List.drop_drop], h0, h1⟩
theorem whole {α : Type} {d : Kd α} {cs : List Value} {X : α} (hl : cs.length = d.sz) (h : d.K w X ((cs.drop 0).take d.sz)) : d.K w X cs := by
  rw [List.drop_zero, List.take_of_length_le (by omega)] at h
  exact h
instance : Inhabited S34 := ⟨z34⟩
instance : Inhabited S37 := ⟨z37⟩
instance : Inhabited S39 := ⟨z39⟩
instance : Inhabited S63 := ⟨z63⟩
instance : Inhabited S151 := ⟨z151⟩
instance : Inhabited S154 := ⟨z154⟩
instance : Inhabited S186 := ⟨z186⟩
instance : Inhabited S188 := ⟨z188⟩
instance : Inhabited S190 := ⟨z190⟩
instance : Inhabited S192 := ⟨z192⟩
def ok34 (x : S34) : Prop := (okL okU8) x.f0 ∧ (okL okU8) x.f1
theorem open34 (fuel : Nat) : Opens enc w base spare held fuel 34 k34 ok34 := by
  refine ⟨by kernel_rfl, fun cs x h => ?_⟩
  obtain ⟨hl, n, hn, hf⟩ := fieldAt Try.underlying34 h
  obtain ⟨X0, K0, o0⟩ := field_open hf 0 _ rfl (opens_slice Try.underlying32 (by kernel_rfl) (by kernel_rfl) fun n hn => (opens_int8 n Try.underlying5 (by kernel_rfl)))
  obtain ⟨X1, K1, o1⟩ := field_open hf 1 _ rfl (opens_slice Try.underlying32 (by kernel_rfl) (by kernel_rfl) fun n hn => (opens_int8 n Try.underlying5 (by kernel_rfl)))
  exact ⟨⟨X0, X1⟩, whole (d := k34) (X := (⟨X0, X1⟩ : S34)) (hl.trans (by kernel_rfl)) (pair_seg K0 K1), o0, o1⟩
def ok37 (x : S37) : Prop := okU32 x.f0 ∧ okU32 x.f1 ∧ okAny x.f2
theorem open37 (fuel : Nat) : Opens enc w base spare held fuel 37 k37 ok37 := by
  refine ⟨by kernel_rfl, fun cs x h => ?_⟩
  obtain ⟨hl, n, hn, hf⟩ := fieldAt Try.underlying37 h
  obtain ⟨X0, K0, o0⟩ := field_open hf 0 _ rfl (opens_int32 n Try.underlying35 (by kernel_rfl))
  obtain ⟨X1, K1, o1⟩ := field_open hf 1 _ rfl (opens_int32 n Try.underlying35 (by kernel_rfl))
  obtain ⟨X2, K2, o2⟩ := field_open hf 2 _ rfl (opens_bool n Try.underlying4 (by kernel_rfl))
  exact ⟨⟨X0, X1, X2⟩, whole (d := k37) (X := (⟨X0, X1, X2⟩ : S37)) (hl.trans (by kernel_rfl)) (pair_seg K0 (pair_seg K1 K2)), o0, o1, o2⟩
def ok39 (x : S39) : Prop := okU8 x.f0 ∧ okAny x.f1
theorem open39 (fuel : Nat) : Opens enc w base spare held fuel 39 k39 ok39 := by
  refine ⟨by kernel_rfl, fun cs x h => ?_⟩
  obtain ⟨hl, n, hn, hf⟩ := fieldAt Try.underlying39 h
  obtain ⟨X0, K0, o0⟩ := field_open hf 0 _ rfl (opens_int8 n Try.underlying5 (by kernel_rfl))
  obtain ⟨X1, K1, o1⟩ := field_open hf 1 _ rfl (opens_bool n Try.underlying4 (by kernel_rfl))
  exact ⟨⟨X0, X1⟩, whole (d := k39) (X := (⟨X0, X1⟩ : S39)) (hl.trans (by kernel_rfl)) (pair_seg K0 K1), o0, o1⟩
def ok63 (x : S63) : Prop := okStr x.f0 ∧ okStr x.f1 ∧ okI64 x.f2 ∧ okU32 x.f3 ∧ ok37 x.f4 ∧ ok39 x.f5
theorem open63 (fuel : Nat) : Opens enc w base spare held fuel 63 k63 ok63 := by
  refine ⟨by kernel_rfl, fun cs x h => ?_⟩
  obtain ⟨hl, n, hn, hf⟩ := fieldAt Try.underlying63 h
  obtain ⟨X0, K0, o0⟩ := field_open hf 0 _ rfl (opens_string n Try.underlying9 (by kernel_rfl))
  obtain ⟨X1, K1, o1⟩ := field_open hf 1 _ rfl (opens_string n Try.underlying9 (by kernel_rfl))
  obtain ⟨X2, K2, o2⟩ := field_open hf 2 _ rfl (opens_intI n Try.underlying3 (by kernel_rfl))
  obtain ⟨X3, K3, o3⟩ := field_open hf 3 _ rfl (opens_int32 n Try.underlying35 (by kernel_rfl))
  obtain ⟨X4, K4, o4⟩ := field_open hf 4 _ rfl (open37 n)
  obtain ⟨X5, K5, o5⟩ := field_open hf 5 _ rfl (open39 n)
  exact ⟨⟨X0, X1, X2, X3, X4, X5⟩, whole (d := k63) (X := (⟨X0, X1, X2, X3, X4, X5⟩ : S63)) (hl.trans (by kernel_rfl)) (pair_seg K0 (pair_seg K1 (pair_seg K2 (pair_seg K3 (pair_seg K4 K5))))), o0, o1, o2, o3, o4, o5⟩
def ok186 (x : S186) : Prop := okI64 x.f0 ∧ okU8 x.f1 ∧ okU32 x.f2 ∧ okU32 x.f3 ∧ okU64 x.f4 ∧ (okL okU32) x.f5 ∧ okAny x.f8
theorem fold186 {w : World} {X : S186} {cs : List Value} (h : (F186 k186).K w X cs) : k186.K w X cs := by
  obtain ⟨_, _, rfl, rfl, ⟨_, _, rfl, rfl, ⟨_, _, rfl, rfl, ⟨_, _, rfl, rfl, ⟨_, _, rfl, rfl, ⟨_, _, rfl, ⟨A5, c5, rfl, l5, g5⟩, ⟨_, _, rfl, ⟨A6, c6, rfl, l6, g6⟩, ⟨_, _, rfl, ⟨A7, c7, rfl, l7, g7⟩, rfl⟩⟩⟩⟩⟩⟩⟩⟩ := h
  exact k186_mk w X l5 g5 l6 g6 l7 g7
theorem open186 (fuel : Nat) : Opens enc w base spare held fuel 186 k186 ok186 := by
  induction fuel using Nat.strongRecOn with
  | _ fuel ih =>
    refine ⟨by kernel_rfl, fun cs x h => ?_⟩
    obtain ⟨hl, n, hn, hf⟩ := fieldAt Try.underlying186 h
    obtain ⟨X0, K0, o0⟩ := field_open hf 0 _ rfl (opens_intI n Try.underlying3 (by kernel_rfl))
    obtain ⟨X1, K1, o1⟩ := field_open hf 1 _ rfl (opens_int8 n Try.underlying5 (by kernel_rfl))
    obtain ⟨X2, K2, o2⟩ := field_open hf 2 _ rfl (opens_int32 n Try.underlying35 (by kernel_rfl))
    obtain ⟨X3, K3, o3⟩ := field_open hf 3 _ rfl (opens_int32 n Try.underlying35 (by kernel_rfl))
    obtain ⟨X4, K4, o4⟩ := field_open hf 4 _ rfl (opens_int64 n Try.underlying113 (by kernel_rfl))
    obtain ⟨X5, K5, o5⟩ := field_open hf 5 _ rfl (opens_slice Try.underlying184 (by kernel_rfl) (by kernel_rfl) fun n hn => (opens_int32 n Try.underlying35 (by kernel_rfl)))
    obtain ⟨X6, K6, o6⟩ := field_open hf 6 _ rfl (opens_slice Try.underlying149 (by kernel_rfl) (by kernel_rfl) fun n hn => (ih n (by omega)))
    obtain ⟨X7, K7, o7⟩ := field_open hf 7 _ rfl (opens_slice Try.underlying149 (by kernel_rfl) (by kernel_rfl) fun n hn => (ih n (by omega)))
    obtain ⟨X8, K8, o8⟩ := field_open hf 8 _ rfl (opens_bool n Try.underlying4 (by kernel_rfl))
    exact ⟨⟨X0, X1, X2, X3, X4, X5, X6, X7, X8⟩, fold186 (whole (d := (F186 k186)) (X := (⟨X0, X1, X2, X3, X4, X5, X6, X7, X8⟩ : S186)) (hl.trans (by kernel_rfl)) (pair_seg K0 (pair_seg K1 (pair_seg K2 (pair_seg K3 (pair_seg K4 (pair_seg K5 (pair_seg K6 (pair_seg K7 K8))))))))), o0, o1, o2, o3, o4, o5, o8⟩
def ok151 (x : S151) : Prop := okU32 x.f0 ∧ (okL okU8) x.f1 ∧ (okL ok186) x.f2
theorem open151 (fuel : Nat) : Opens enc w base spare held fuel 151 k151 ok151 := by
  refine ⟨by kernel_rfl, fun cs x h => ?_⟩
  obtain ⟨hl, n, hn, hf⟩ := fieldAt Try.underlying151 h
  obtain ⟨X0, K0, o0⟩ := field_open hf 0 _ rfl (opens_int32 n Try.underlying35 (by kernel_rfl))
  obtain ⟨X1, K1, o1⟩ := field_open hf 1 _ rfl (opens_slice Try.underlying32 (by kernel_rfl) (by kernel_rfl) fun n hn => (opens_int8 n Try.underlying5 (by kernel_rfl)))
  obtain ⟨X2, K2, o2⟩ := field_open hf 2 _ rfl (opens_slice Try.underlying149 (by kernel_rfl) (by kernel_rfl) fun n hn => (open186 n))
  exact ⟨⟨X0, X1, X2⟩, whole (d := k151) (X := (⟨X0, X1, X2⟩ : S151)) (hl.trans (by kernel_rfl)) (pair_seg K0 (pair_seg K1 K2)), o0, o1, o2⟩
def ok154 (x : S154) : Prop := ok39 x.f0 ∧ (okL ok186) x.f1
theorem open154 (fuel : Nat) : Opens enc w base spare held fuel 154 k154 ok154 := by
  refine ⟨by kernel_rfl, fun cs x h => ?_⟩
  obtain ⟨hl, n, hn, hf⟩ := fieldAt Try.underlying154 h
  obtain ⟨X0, K0, o0⟩ := field_open hf 0 _ rfl (open39 n)
  obtain ⟨X1, K1, o1⟩ := field_open hf 1 _ rfl (opens_slice Try.underlying149 (by kernel_rfl) (by kernel_rfl) fun n hn => (open186 n))
  exact ⟨⟨X0, X1⟩, whole (d := k154) (X := (⟨X0, X1⟩ : S154)) (hl.trans (by kernel_rfl)) (pair_seg K0 K1), o0, o1⟩
def ok188 (x : S188) : Prop := okStr x.f0 ∧ okI64 x.f1 ∧ okU32 x.f2
theorem open188 (fuel : Nat) : Opens enc w base spare held fuel 188 k188 ok188 := by
  refine ⟨by kernel_rfl, fun cs x h => ?_⟩
  obtain ⟨hl, n, hn, hf⟩ := fieldAt Try.underlying188 h
  obtain ⟨X0, K0, o0⟩ := field_open hf 0 _ rfl (opens_string n Try.underlying9 (by kernel_rfl))
  obtain ⟨X1, K1, o1⟩ := field_open hf 1 _ rfl (opens_intI n Try.underlying3 (by kernel_rfl))
  obtain ⟨X2, K2, o2⟩ := field_open hf 2 _ rfl (opens_int32 n Try.underlying35 (by kernel_rfl))
  exact ⟨⟨X0, X1, X2⟩, whole (d := k188) (X := (⟨X0, X1, X2⟩ : S188)) (hl.trans (by kernel_rfl)) (pair_seg K0 (pair_seg K1 K2)), o0, o1, o2⟩
def ok190 (x : S190) : Prop := okU32 x.f0 ∧ (okL ok186) x.f1 ∧ (okL okU32) x.f2
theorem open190 (fuel : Nat) : Opens enc w base spare held fuel 190 k190 ok190 := by
  refine ⟨by kernel_rfl, fun cs x h => ?_⟩
  obtain ⟨hl, n, hn, hf⟩ := fieldAt Try.underlying190 h
  obtain ⟨X0, K0, o0⟩ := field_open hf 0 _ rfl (opens_int32 n Try.underlying35 (by kernel_rfl))
  obtain ⟨X1, K1, o1⟩ := field_open hf 1 _ rfl (opens_slice Try.underlying149 (by kernel_rfl) (by kernel_rfl) fun n hn => (open186 n))
  obtain ⟨X2, K2, o2⟩ := field_open hf 2 _ rfl (opens_slice Try.underlying184 (by kernel_rfl) (by kernel_rfl) fun n hn => (opens_int32 n Try.underlying35 (by kernel_rfl)))
  exact ⟨⟨X0, X1, X2⟩, whole (d := k190) (X := (⟨X0, X1, X2⟩ : S190)) (hl.trans (by kernel_rfl)) (pair_seg K0 (pair_seg K1 K2)), o0, o1, o2⟩
def ok192 (x : S192) : Prop := okU32 x.f0 ∧ (okL ok186) x.f1 ∧ (okL okU8) x.f2
theorem open192 (fuel : Nat) : Opens enc w base spare held fuel 192 k192 ok192 := by
  refine ⟨by kernel_rfl, fun cs x h => ?_⟩
  obtain ⟨hl, n, hn, hf⟩ := fieldAt Try.underlying192 h
  obtain ⟨X0, K0, o0⟩ := field_open hf 0 _ rfl (opens_int32 n Try.underlying35 (by kernel_rfl))
  obtain ⟨X1, K1, o1⟩ := field_open hf 1 _ rfl (opens_slice Try.underlying149 (by kernel_rfl) (by kernel_rfl) fun n hn => (open186 n))
  obtain ⟨X2, K2, o2⟩ := field_open hf 2 _ rfl (opens_slice Try.underlying32 (by kernel_rfl) (by kernel_rfl) fun n hn => (opens_int8 n Try.underlying5 (by kernel_rfl)))
  exact ⟨⟨X0, X1, X2⟩, whole (d := k192) (X := (⟨X0, X1, X2⟩ : S192)) (hl.trans (by kernel_rfl)) (pair_seg K0 (pair_seg K1 K2)), o0, o1, o2⟩
/-! #### type 58 -/
structure S58 where
  f0 : (List S34)
  f1 : (List S63)
  f2 : (List S151)
  f3 : (List S37)
  f4 : (List S37)
  f5 : (List S154)
  f6 : (List S188)
  f7 : Bool
  f8 : Int
  f9 : (List S190)
  f10 : (List S192)
def z58 : S58 := ⟨([] : (List S34)), ([] : (List S63)), ([] : (List S151)), ([] : (List S37)), ([] : (List S37)), ([] : (List S154)), ([] : (List S188)), false, (0 : Int), ([] : (List S190)), ([] : (List S192))⟩
instance : Inhabited S58 := ⟨z58⟩
def k58 : Kd S58 := Kd.iso (Kd.pair (Kd.slice 34 k34) (Kd.pair (Kd.slice 63 k63) (Kd.pair (Kd.slice 151 k151) (Kd.pair (Kd.slice 37 k37) (Kd.pair (Kd.slice 37 k37) (Kd.pair (Kd.slice 154 k154) (Kd.pair (Kd.slice 188 k188) (Kd.pair Kd.bool (Kd.pair (Kd.int .u32) (Kd.pair (Kd.slice 190 k190) (Kd.slice 192 k192))))))))))) (fun x : S58 => (x.f0, x.f1, x.f2, x.f3, x.f4, x.f5, x.f6, x.f7, x.f8, x.f9, x.f10))
theorem k58_open {w : World} {x : S58} {cs : List Value} (h : k58.K w x cs) : ∃ (A0 : Option Addr) (c0 : Nat) (A1 : Option Addr) (c1 : Nat) (A2 : Option Addr) (c2 : Nat) (A3 : Option Addr) (c3 : Nat) (A4 : Option Addr) (c4 : Nat) (A5 : Option Addr) (c5 : Nat) (A6 : Option Addr) (c6 : Nat) (A9 : Option Addr) (c9 : Nat) (A10 : Option Addr) (c10 : Nat), cs = [.slice A0 x.f0.length c0, .slice A1 x.f1.length c1, .slice A2 x.f2.length c2, .slice A3 x.f3.length c3, .slice A4 x.f4.length c4, .slice A5 x.f5.length c5, .slice A6 x.f6.length c6, .bool x.f7, .int .u32 x.f8, .slice A9 x.f9.length c9, .slice A10 x.f10.length c10] ∧ x.f0.length ≤ c0 ∧ Kd.C k34 w A0 x.f0.length x.f0 ∧ x.f1.length ≤ c1 ∧ Kd.C k63 w A1 x.f1.length x.f1 ∧ x.f2.length ≤ c2 ∧ Kd.C k151 w A2 x.f2.length x.f2 ∧ x.f3.length ≤ c3 ∧ Kd.C k37 w A3 x.f3.length x.f3 ∧ x.f4.length ≤ c4 ∧ Kd.C k37 w A4 x.f4.length x.f4 ∧ x.f5.length ≤ c5 ∧ Kd.C k154 w A5 x.f5.length x.f5 ∧ x.f6.length ≤ c6 ∧ Kd.C k188 w A6 x.f6.length x.f6 ∧ x.f9.length ≤ c9 ∧ Kd.C k190 w A9 x.f9.length x.f9 ∧ x.f10.length ≤ c10 ∧ Kd.C k192 w A10 x.f10.length x.f10 := by
  obtain ⟨_, _, rfl, ⟨A0, c0, rfl, l0, g0⟩, ⟨_, _, rfl, ⟨A1, c1, rfl, l1, g1⟩, ⟨_, _, rfl, ⟨A2, c2, rfl, l2, g2⟩, ⟨_, _, rfl, ⟨A3, c3, rfl, l3, g3⟩, ⟨_, _, rfl, ⟨A4, c4, rfl, l4, g4⟩, ⟨_, _, rfl, ⟨A5, c5, rfl, l5, g5⟩, ⟨_, _, rfl, ⟨A6, c6, rfl, l6, g6⟩, ⟨_, _, rfl, rfl, ⟨_, _, rfl, rfl, ⟨_, _, rfl, ⟨A9, c9, rfl, l9, g9⟩, ⟨A10, c10, rfl, l10, g10⟩⟩⟩⟩⟩⟩⟩⟩⟩⟩⟩ := h
  exact ⟨A0, c0, A1, c1, A2, c2, A3, c3, A4, c4, A5, c5, A6, c6, A9, c9, A10, c10, rfl, l0, g0, l1, g1, l2, g2, l3, g3, l4, g4, l5, g5, l6, g6, l9, g9, l10, g10⟩
theorem k58_mk (w : World) (x : S58) {A0 : Option Addr} {c0 : Nat} (l0 : x.f0.length ≤ c0) (g0 : Kd.C k34 w A0 x.f0.length x.f0) {A1 : Option Addr} {c1 : Nat} (l1 : x.f1.length ≤ c1) (g1 : Kd.C k63 w A1 x.f1.length x.f1) {A2 : Option Addr} {c2 : Nat} (l2 : x.f2.length ≤ c2) (g2 : Kd.C k151 w A2 x.f2.length x.f2) {A3 : Option Addr} {c3 : Nat} (l3 : x.f3.length ≤ c3) (g3 : Kd.C k37 w A3 x.f3.length x.f3) {A4 : Option Addr} {c4 : Nat} (l4 : x.f4.length ≤ c4) (g4 : Kd.C k37 w A4 x.f4.length x.f4) {A5 : Option Addr} {c5 : Nat} (l5 : x.f5.length ≤ c5) (g5 : Kd.C k154 w A5 x.f5.length x.f5) {A6 : Option Addr} {c6 : Nat} (l6 : x.f6.length ≤ c6) (g6 : Kd.C k188 w A6 x.f6.length x.f6) {A9 : Option Addr} {c9 : Nat} (l9 : x.f9.length ≤ c9) (g9 : Kd.C k190 w A9 x.f9.length x.f9) {A10 : Option Addr} {c10 : Nat} (l10 : x.f10.length ≤ c10) (g10 : Kd.C k192 w A10 x.f10.length x.f10) : k58.K w x [.slice A0 x.f0.length c0, .slice A1 x.f1.length c1, .slice A2 x.f2.length c2, .slice A3 x.f3.length c3, .slice A4 x.f4.length c4, .slice A5 x.f5.length c5, .slice A6 x.f6.length c6, .bool x.f7, .int .u32 x.f8, .slice A9 x.f9.length c9, .slice A10 x.f10.length c10] := ⟨[.slice A0 x.f0.length c0], [.slice A1 x.f1.length c1, .slice A2 x.f2.length c2, .slice A3 x.f3.length c3, .slice A4 x.f4.length c4, .slice A5 x.f5.length c5, .slice A6 x.f6.length c6, .bool x.f7, .int .u32 x.f8, .slice A9 x.f9.length c9, .slice A10 x.f10.length c10], rfl, ⟨A0, c0, rfl, l0, g0⟩, ⟨[.slice A1 x.f1.length c1], [.slice A2 x.f2.length c2, .slice A3 x.f3.length c3, .slice A4 x.f4.length c4, .slice A5 x.f5.length c5, .slice A6 x.f6.length c6, .bool x.f7, .int .u32 x.f8, .slice A9 x.f9.length c9, .slice A10 x.f10.length c10], rfl, ⟨A1, c1, rfl, l1, g1⟩, ⟨[.slice A2 x.f2.length c2], [.slice A3 x.f3.length c3, .slice A4 x.f4.length c4, .slice A5 x.f5.length c5, .slice A6 x.f6.length c6, .bool x.f7, .int .u32 x.f8, .slice A9 x.f9.length c9, .slice A10 x.f10.length c10], rfl, ⟨A2, c2, rfl, l2, g2⟩, ⟨[.slice A3 x.f3.length c3], [.slice A4 x.f4.length c4, .slice A5 x.f5.length c5, .slice A6 x.f6.length c6, .bool x.f7, .int .u32 x.f8, .slice A9 x.f9.length c9, .slice A10 x.f10.length c10], rfl, ⟨A3, c3, rfl, l3, g3⟩, ⟨[.slice A4 x.f4.length c4], [.slice A5 x.f5.length c5, .slice A6 x.f6.length c6, .bool x.f7, .int .u32 x.f8, .slice A9 x.f9.length c9, .slice A10 x.f10.length c10], rfl, ⟨A4, c4, rfl, l4, g4⟩, ⟨[.slice A5 x.f5.length c5], [.slice A6 x.f6.length c6, .bool x.f7, .int .u32 x.f8, .slice A9 x.f9.length c9, .slice A10 x.f10.length c10], rfl, ⟨A5, c5, rfl, l5, g5⟩, ⟨[.slice A6 x.f6.length c6], [.bool x.f7, .int .u32 x.f8, .slice A9 x.f9.length c9, .slice A10 x.f10.length c10], rfl, ⟨A6, c6, rfl, l6, g6⟩, ⟨[.bool x.f7], [.int .u32 x.f8, .slice A9 x.f9.length c9, .slice A10 x.f10.length c10], rfl, rfl, ⟨[.int .u32 x.f8], [.slice A9 x.f9.length c9, .slice A10 x.f10.length c10], rfl, rfl, ⟨[.slice A9 x.f9.length c9], [.slice A10 x.f10.length c10], rfl, ⟨A9, c9, rfl, l9, g9⟩, ⟨A10, c10, rfl, l10, g10⟩⟩⟩⟩⟩⟩⟩⟩⟩⟩⟩
def ok58 (x : S58) : Prop := (okL ok34) x.f0 ∧ (okL ok63) x.f1 ∧ (okL ok151) x.f2 ∧ (okL ok37) x.f3 ∧ (okL ok37) x.f4 ∧ (okL ok154) x.f5 ∧ (okL ok188) x.f6 ∧ okAny x.f7 ∧ okU32 x.f8 ∧ (okL ok190) x.f9 ∧ (okL ok192) x.f10
theorem open58 (fuel : Nat) : Opens enc w base spare held fuel 58 k58 ok58 := by
  refine ⟨by kernel_rfl, fun cs x h => ?_⟩
  obtain ⟨hl, n, hn, hf⟩ := fieldAt Try.underlying58 h
  obtain ⟨X0, K0, o0⟩ := field_open hf 0 _ rfl (opens_slice Try.underlying49 (by kernel_rfl) (by kernel_rfl) fun n hn => (open34 n))
  obtain ⟨X1, K1, o1⟩ := field_open hf 1 _ rfl (opens_slice Try.underlying50 (by kernel_rfl) (by kernel_rfl) fun n hn => (open63 n))
  obtain ⟨X2, K2, o2⟩ := field_open hf 2 _ rfl (opens_slice Try.underlying51 (by kernel_rfl) (by kernel_rfl) fun n hn => (open151 n))
  obtain ⟨X3, K3, o3⟩ := field_open hf 3 _ rfl (opens_slice Try.underlying52 (by kernel_rfl) (by kernel_rfl) fun n hn => (open37 n))
  obtain ⟨X4, K4, o4⟩ := field_open hf 4 _ rfl (opens_slice Try.underlying52 (by kernel_rfl) (by kernel_rfl) fun n hn => (open37 n))
  obtain ⟨X5, K5, o5⟩ := field_open hf 5 _ rfl (opens_slice Try.underlying53 (by kernel_rfl) (by kernel_rfl) fun n hn => (open154 n))
  obtain ⟨X6, K6, o6⟩ := field_open hf 6 _ rfl (opens_slice Try.underlying54 (by kernel_rfl) (by kernel_rfl) fun n hn => (open188 n))
  obtain ⟨X7, K7, o7⟩ := field_open hf 7 _ rfl (opens_bool n Try.underlying4 (by kernel_rfl))
  obtain ⟨X8, K8, o8⟩ := field_open hf 8 _ rfl (opens_int32 n Try.underlying35 (by kernel_rfl))
  obtain ⟨X9, K9, o9⟩ := field_open hf 9 _ rfl (opens_slice Try.underlying55 (by kernel_rfl) (by kernel_rfl) fun n hn => (open190 n))
  obtain ⟨X10, K10, o10⟩ := field_open hf 10 _ rfl (opens_slice Try.underlying56 (by kernel_rfl) (by kernel_rfl) fun n hn => (open192 n))
  exact ⟨⟨X0, X1, X2, X3, X4, X5, X6, X7, X8, X9, X10⟩, whole (d := k58) (X := (⟨X0, X1, X2, X3, X4, X5, X6, X7, X8, X9, X10⟩ : S58)) (hl.trans (by kernel_rfl)) (pair_seg K0 (pair_seg K1 (pair_seg K2 (pair_seg K3 (pair_seg K4 (pair_seg K5 (pair_seg K6 (pair_seg K7 (pair_seg K8 (pair_seg K9 K10)))))))))), o0, o1, o2, o3, o4, o5, o6, o7, o8, o9, o10⟩
end
end Go.Proofs.Ytkpjdkmggbelfaa.Opn
