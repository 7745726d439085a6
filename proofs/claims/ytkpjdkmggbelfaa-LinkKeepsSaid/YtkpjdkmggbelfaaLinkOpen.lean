/- A row of things, as it comes in, is a list of them; and one thing. -/
import Derived.Test.YtkpjdkmggbelfaaPureLinkMatches
import Derived.Deep.Slices
import Derived.ChangeArms
import Derived.WalkKit
import Derived.ProofKit
import Derived.OpenShut
namespace Go.Proofs.Ytkpjdkmggbelfaa.Open
open Go.ChangeShapes Go.WideShapes Go.RowKit Go.Proofs.YtkpjdkmggbelfaaW.PrintWords Go.Proofs.Ytkpjdkmggbelfaa.Q29 Go.Proofs.Ytkpjdkmggbelfaa.Link Go.Proofs.Ytkpjdkmggbelfaa.Pure
set_option linter.unusedVariables false

section
variable {H : Type} {enc : TypeId × Value → H} {w : World} {base : Nat} {spare : Nat → Bool} {held : Bool}
theorem open32 {fuel : Nat} {cs : List Value} {x : DataW H × List MemPlace} (h : DataW.trod enc Try.prog w base spare held fuel 32 cs = some x) :
    ∃ (A : Option Addr) (c : Nat) (l : List Int), cs = [.slice A l.length c] ∧ l.length ≤ c ∧ Kd.C (Kd.int .u8) w A l.length l ∧ okB l := by
  rcases open_ints Try.underlying32 Try.underlying5 (by kernel_rfl) h with ⟨rfl, _⟩ | ⟨a, len, cap, zs, rfl, _, hl, hm, hz, _, hcell, hwz⟩
  · exact ⟨none, 0, [], rfl, Nat.le_refl _, Kd.C_nil _ w, fun x hx => by simp at hx⟩
  · have hlz : len ≤ zs.length := by rw [hz]; split <;> omega
    have e : (zs.take len).length = len := by rw [List.length_take]; omega
    refine ⟨some a, cap, zs.take len, by rw [e], by omega, ?_, ?_⟩
    · refine Kd.C_of_reads (d := (0 : Int)) (h1 := fun _ => rfl) ⟨rfl, by rw [e]; have : maxLen = 9223372036854775807 := rfl; omega, fun _ => ⟨_, rfl, fun j hj => ?_⟩⟩
      rw [e] at hj
      rw [hcell j (by omega)]
      congr 2
      rw [List.getD_eq_getElem?_getD, List.getD_eq_getElem?_getD, List.getElem?_take_of_lt hj]
    · intro x hx
      have := hwz x (List.mem_of_mem_take hx)
      simp only [Lit.wf, Bool.and_eq_true, decide_eq_true_eq] at this
      have h1 : IntKind.u8.min = 0 := rfl
      have h2 : IntKind.u8.max = 255 := rfl
      rw [h1, h2] at this
      omega
theorem cells41 : Try.prog.cellsOf 41 = 8 := by kernel_rfl
theorem cells34 : Try.prog.cellsOf 34 = 2 := by kernel_rfl
theorem cells37 : Try.prog.cellsOf 37 = 3 := by kernel_rfl
theorem cells39 : Try.prog.cellsOf 39 = 2 := by kernel_rfl
theorem cells32 : Try.prog.cellsOf 32 = 1 := by kernel_rfl
theorem cells3 : Try.prog.cellsOf 3 = 1 := by kernel_rfl
theorem cells35 : Try.prog.cellsOf 35 = 1 := by kernel_rfl
theorem cells4 : Try.prog.cellsOf 4 = 1 := by kernel_rfl
theorem cells5 : Try.prog.cellsOf 5 = 1 := by kernel_rfl
theorem len2 {α : Type} {l : List α} (h : l.length = 2) : ∃ a b, l = [a, b] := by
  match l, h with
  | [a, b], _ => exact ⟨a, b, rfl⟩
theorem len3 {α : Type} {l : List α} (h : l.length = 3) : ∃ a b c, l = [a, b, c] := by
  match l, h with
  | [a, b, c], _ => exact ⟨a, b, c, rfl⟩
theorem len4 {α : Type} {l : List α} (h : l.length = 4) : ∃ a b c d, l = [a, b, c, d] := by
  match l, h with
  | [a, b, c, d], _ => exact ⟨a, b, c, d, rfl⟩
theorem len8 {α : Type} {l : List α} (h : l.length = 8) : ∃ a b c d e f g i, l = [a, b, c, d, e, f, g, i] := by
  match l, h with
  | [a, b, c, d, e, f, g, i], _ => exact ⟨a, b, c, d, e, f, g, i, rfl⟩
theorem open34 {fuel : Nat} {cs : List Value} {x : DataW H × List MemPlace} (h : DataW.trod enc Try.prog w base spare held fuel 34 cs = some x) :
    ∃ (A0 : Option Addr) (c0 : Nat) (l0 : List Int) (A1 : Option Addr) (c1 : Nat) (l1 : List Int), cs = [.slice A0 l0.length c0, .slice A1 l1.length c1] ∧ l0.length ≤ c0 ∧ Kd.C (Kd.int .u8) w A0 l0.length l0 ∧ okB l0 ∧ l1.length ≤ c1 ∧ Kd.C (Kd.int .u8) w A1 l1.length l1 ∧ okB l1 := by
  obtain ⟨xs, n, _, _, hl, hlx, hf⟩ := DataW.trod_struct Try.underlying34 h
  rw [cells34] at hl
  obtain ⟨v0, v1, rfl⟩ := len2 hl
  obtain ⟨y0, y1, rfl⟩ := len2 hlx
  have f0 : DataW.trod enc Try.prog w base spare held n 32 (List.take (Try.prog.cellsOf 32) (List.drop 0 [v0, v1])) = some y0 := hf 0 _ rfl
  have f1 : DataW.trod enc Try.prog w base spare held n 32 (List.take (Try.prog.cellsOf 32) (List.drop 1 [v0, v1])) = some y1 := hf 1 _ rfl
  rw [cells32] at f0 f1
  obtain ⟨A0, c0, l0, e0, g0, h0, k0⟩ := open32 (show DataW.trod enc Try.prog w base spare held n 32 [v0] = some y0 from f0)
  obtain ⟨A1, c1, l1, e1, g1, h1, k1⟩ := open32 (show DataW.trod enc Try.prog w base spare held n 32 [v1] = some y1 from f1)
  injection e0 with e0 _
  injection e1 with e1 _
  subst e0 e1
  exact ⟨A0, c0, l0, A1, c1, l1, rfl, g0, h0, k0, g1, h1, k1⟩
theorem open37 {fuel : Nat} {cs : List Value} {x : DataW H × List MemPlace} (h : DataW.trod enc Try.prog w base spare held fuel 37 cs = some x) :
    ∃ (a b : Int) (c : Bool), cs = [.int .u32 a, .int .u32 b, .bool c] ∧ (Lit.int .u32 a).wf = true ∧ (Lit.int .u32 b).wf = true := by
  obtain ⟨xs, n, _, _, hl, hlx, hf⟩ := DataW.trod_struct Try.underlying37 h
  rw [cells37] at hl
  obtain ⟨v0, v1, v2, rfl⟩ := len3 hl
  obtain ⟨y0, y1, y2, rfl⟩ := len3 hlx
  have f0 : DataW.trod enc Try.prog w base spare held n 35 (List.take (Try.prog.cellsOf 35) (List.drop 0 [v0, v1, v2])) = some y0 := hf 0 _ rfl
  have f1 : DataW.trod enc Try.prog w base spare held n 35 (List.take (Try.prog.cellsOf 35) (List.drop 1 [v0, v1, v2])) = some y1 := hf 1 _ rfl
  have f2 : DataW.trod enc Try.prog w base spare held n 4 (List.take (Try.prog.cellsOf 4) (List.drop 2 [v0, v1, v2])) = some y2 := hf 2 _ rfl
  rw [cells35] at f0 f1
  rw [cells4] at f2
  obtain ⟨a, e0, _, g0⟩ := DataW.trod_int Try.underlying35 (show DataW.trod enc Try.prog w base spare held n 35 [v0] = some y0 from f0)
  obtain ⟨b, e1, _, g1⟩ := DataW.trod_int Try.underlying35 (show DataW.trod enc Try.prog w base spare held n 35 [v1] = some y1 from f1)
  obtain ⟨c, e2, _⟩ := DataW.trod_bool Try.underlying4 (show DataW.trod enc Try.prog w base spare held n 4 [v2] = some y2 from f2)
  injection e0 with e0 _
  injection e1 with e1 _
  injection e2 with e2 _
  subst e0 e1 e2
  exact ⟨a, b, c, rfl, g0, g1⟩
theorem open39 {fuel : Nat} {cs : List Value} {x : DataW H × List MemPlace} (h : DataW.trod enc Try.prog w base spare held fuel 39 cs = some x) :
    ∃ (a : Int) (c : Bool), cs = [.int .u8 a, .bool c] := by
  obtain ⟨xs, n, _, _, hl, hlx, hf⟩ := DataW.trod_struct Try.underlying39 h
  rw [cells39] at hl
  obtain ⟨v0, v1, rfl⟩ := len2 hl
  obtain ⟨y0, y1, rfl⟩ := len2 hlx
  have f0 : DataW.trod enc Try.prog w base spare held n 5 (List.take (Try.prog.cellsOf 5) (List.drop 0 [v0, v1])) = some y0 := hf 0 _ rfl
  have f1 : DataW.trod enc Try.prog w base spare held n 4 (List.take (Try.prog.cellsOf 4) (List.drop 1 [v0, v1])) = some y1 := hf 1 _ rfl
  rw [cells5] at f0
  rw [cells4] at f1
  obtain ⟨a, e0, _, _⟩ := DataW.trod_int Try.underlying5 (show DataW.trod enc Try.prog w base spare held n 5 [v0] = some y0 from f0)
  obtain ⟨c, e1, _⟩ := DataW.trod_bool Try.underlying4 (show DataW.trod enc Try.prog w base spare held n 4 [v1] = some y1 from f1)
  injection e0 with e0 _
  injection e1 with e1 _
  subst e0 e1
  exact ⟨a, c, rfl⟩
/-- One thing's cells. -/
def Cells41 (w : World) (X : S41) (cs : List Value) : Prop := ∃ (A0 : Option Addr) (c0 : Nat) (A1 : Option Addr) (c1 : Nat), cs = [.int .i64 X.f0, .slice A0 X.f1.f0.length c0, .slice A1 X.f1.f1.length c1, .int .u32 X.f2.f0, .int .u32 X.f2.f1, .bool X.f2.f2, .int .u8 X.f3.f0, .bool X.f3.f1] ∧ X.f1.f0.length ≤ c0 ∧ Kd.C (Kd.int .u8) w A0 X.f1.f0.length X.f1.f0 ∧ X.f1.f1.length ≤ c1 ∧ Kd.C (Kd.int .u8) w A1 X.f1.f1.length X.f1.f1
theorem Cells41.k {w : World} {X : S41} {cs : List Value} (h : Cells41 w X cs) : k41.K w X cs ∧ cs.length = 8 := by
  obtain ⟨A0, c0, A1, c1, rfl, h1, h2, h3, h4⟩ := h
  exact ⟨k41_mk w X h1 h2 h3 h4, rfl⟩
def okN (X : S41) : Prop := okX X ∧ (Lit.int .u32 X.f2.f0).wf = true ∧ (Lit.int .u32 X.f2.f1).wf = true ∧ (Lit.int .i64 X.f0).wf = true
theorem open41 {fuel : Nat} {cs : List Value} {x : DataW H × List MemPlace} (h : DataW.trod enc Try.prog w base spare held fuel 41 cs = some x) : ∃ X : S41, Cells41 w X cs ∧ okN X := by
  obtain ⟨xs, n, _, _, hl, hlx, hf⟩ := DataW.trod_struct Try.underlying41 h
  rw [cells41] at hl
  obtain ⟨v0, v1, v2, v3, v4, v5, v6, v7, rfl⟩ := len8 hl
  obtain ⟨y0, y1, y2, y3, rfl⟩ := len4 hlx
  have f0 : DataW.trod enc Try.prog w base spare held n 3 (List.take (Try.prog.cellsOf 3) (List.drop 0 [v0, v1, v2, v3, v4, v5, v6, v7])) = some y0 := hf 0 _ rfl
  have f1 : DataW.trod enc Try.prog w base spare held n 34 (List.take (Try.prog.cellsOf 34) (List.drop 1 [v0, v1, v2, v3, v4, v5, v6, v7])) = some y1 := hf 1 _ rfl
  have f2 : DataW.trod enc Try.prog w base spare held n 37 (List.take (Try.prog.cellsOf 37) (List.drop 3 [v0, v1, v2, v3, v4, v5, v6, v7])) = some y2 := hf 2 _ rfl
  have f3 : DataW.trod enc Try.prog w base spare held n 39 (List.take (Try.prog.cellsOf 39) (List.drop 6 [v0, v1, v2, v3, v4, v5, v6, v7])) = some y3 := hf 3 _ rfl
  rw [cells3] at f0
  rw [cells34] at f1
  rw [cells37] at f2
  rw [cells39] at f3
  obtain ⟨k, e0, _, g0⟩ := DataW.trod_int Try.underlying3 (show DataW.trod enc Try.prog w base spare held n 3 [v0] = some y0 from f0)
  obtain ⟨A0, c0, l0, A1, c1, l1, e1, p1, p2, p3, p4, p5, p6⟩ := open34 (show DataW.trod enc Try.prog w base spare held n 34 [v1, v2] = some y1 from f1)
  obtain ⟨a, b, c, e2, g2, g3⟩ := open37 (show DataW.trod enc Try.prog w base spare held n 37 [v3, v4, v5] = some y2 from f2)
  obtain ⟨ty, mu, e3⟩ := open39 (show DataW.trod enc Try.prog w base spare held n 39 [v6, v7] = some y3 from f3)
  simp only [List.cons.injEq, and_true] at e0 e1 e2 e3
  obtain rfl := e0
  obtain ⟨rfl, rfl⟩ := e1
  obtain ⟨rfl, rfl, rfl⟩ := e2
  obtain ⟨rfl, rfl⟩ := e3
  exact ⟨⟨k, ⟨l0, l1⟩, ⟨a, b, c⟩, ⟨ty, mu⟩⟩, ⟨A0, c0, A1, c1, rfl, p1, p2, p4, p5⟩, ⟨p3, p6⟩, g2, g3, g0⟩
theorem open22 {fuel : Nat} {cs : List Value} {x : DataW H × List MemPlace} (h : DataW.trod enc Try.prog w base spare held fuel 22 cs = some x) :
    ∃ (A : Option Addr) (c : Nat) (l : List S41), cs = [.slice A l.length c] ∧ l.length ≤ c ∧ Kd.C k41 w A l.length l ∧ ∀ x ∈ l, okX x := by
  rcases Go.Deep.open_slice Try.underlying22 h with ⟨rfl, _⟩ | ⟨a, len, cap, m, n, D, Pl, rfl, _, hl, hm, hmm, _, hi⟩
  · exact ⟨none, 0, [], rfl, Nat.le_refl _, ⟨rfl, by simp, fun h => absurd h (Nat.lt_irrefl 0)⟩, fun x hx => by simp at hx⟩
  · have hlm : len ≤ m := by rw [hmm]; split <;> omega
    rw [cells41] at hi
    have hX : ∀ i : Nat, ∃ X : S41, i < len → ∃ cs', (∀ j, j < 8 → w.cell? ((a.add (i * 8)).add j) = cs'[j]?) ∧ Cells41 w X cs' ∧ okX X := by
      intro i
      by_cases hlt : i < len
      · obtain ⟨cs', hc, ht⟩ := hi i (by omega)
        obtain ⟨X, h1, h2⟩ := open41 ht
        exact ⟨X, fun _ => ⟨cs', (World.cells?_some hc).2.2, h1, h2.1⟩⟩
      · exact ⟨z41, fun h => absurd h hlt⟩
    obtain ⟨f, hf⟩ := Classical.skolem.1 hX
    have e : ((List.range len).map f).length = len := by simp
    refine ⟨some a, cap, (List.range len).map f, by rw [e], by omega, ?_, ?_⟩
    · refine ⟨rfl, by rw [e]; have : maxLen = 9223372036854775807 := rfl; omega, fun _ => ⟨a, rfl, fun j p hj => ?_⟩⟩
      have hjl : j < len := by
        have := (List.getElem?_eq_some_iff.1 hj).1
        rw [e] at this
        exact this
      have hp : p = f j := by
        rw [List.getElem?_map, List.getElem?_range hjl] at hj
        simpa using hj.symm
      subst hp
      obtain ⟨cs', hc, hk, _⟩ := hf j hjl
      refine ⟨cs', hk.k.2, hk.k.1, fun i u hu => ?_⟩
      have hi8 : i < 8 := by
        have := (List.getElem?_eq_some_iff.1 hu).1
        rw [hk.k.2] at this
        exact this
      have := hc i hi8
      rw [hu] at this
      rw [Go.Deep.add_add] at this
      exact this
    · intro x hx
      obtain ⟨i, hi, rfl⟩ := List.mem_map.1 hx
      obtain ⟨_, _, _, h⟩ := hf i (List.mem_range.1 hi)
      exact h
end
end Go.Proofs.Ytkpjdkmggbelfaa.Open
