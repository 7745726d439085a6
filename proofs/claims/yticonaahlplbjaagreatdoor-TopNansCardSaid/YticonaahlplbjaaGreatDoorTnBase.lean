/- What the walks of this seat share: the imports, and what a good float is. -/
import Derived.Test.YticonaahlplbjaaGreatDoorTnWords
import Derived.Test.YticonaahlplbjaaGreatDoorProg
import Derived.Below
import Derived.Deep.Draws
import Derived.Deep.AppendLies
import Derived.Maps.AppendAt
import Derived.OwnWalk
import Derived.Laws.BytesArg
import Derived.Laws.MakeOwn
import Derived.Laws.OwnMore
import Derived.Deep.OwnRows
import Derived.Tactics
import Derived.Lib.ConvBytes
import Derived.Laws.Slices
import Derived.WalkKit
import Derived.KernelRfl
import Derived.RowKit3
import Derived.Deep.LoopGhost
import Derived.Deep.QuietTactic
import Derived.BigQuiet
import Derived.WideLaws
import Derived.Deep.DeepCutAuto
import Derived.Deep.CutBlock
import Derived.Deep.RegionHeld3
import Derived.Laws.Rows
import Derived.Lib.AppendStr
import Derived.ArgAppend
import Derived.Laws.IdiomCopy
import Derived.OrdersHeld
import Derived.Laws.BitsLemmas
import Derived.RowKit
import Derived.Lib.BitFns
namespace Go.Proofs.YticonaahlplbjaaGreatDoor.Tn
open Go.RowKit Go.Proofs.YticonaahlplbjaaGreatDoorW.PrintWords Go.Proofs.YticonaahlplbjaaGreatDoorW.PrintLast Go.Proofs.YticonaahlplbjaaGreatDoorW.PrintMore
theorem bset {B g : Nat} {w W : World} (h : Below B w W) (hg : B ≤ g) (j : Nat) (v : Value) : Below B w (W.setCell ⟨g, j, none⟩ v) := h.setCell hg v
theorem g1 {α : Type} {l : List α} {i : Nat} : l.toArray[i]? = l[i]? := List.getElem?_toArray
theorem g2 {α : Type} {a : α} {l : List α} {i : Nat} : (a :: l)[i + 1]? = l[i]? := List.getElem?_cons_succ
theorem g3 {α : Type} {a : α} {l : List α} : (a :: l)[0]? = some a := List.getElem?_cons_zero
theorem g4 {α : Type} {l : List α} {i : Nat} {a : α} : l.toArray.setIfInBounds i a = (l.set i a).toArray := List.setIfInBounds_toArray ..
theorem g5 {α : Type} {a b : α} {l : List α} : (a :: l).set 0 b = b :: l := rfl
theorem g6 {α : Type} {a b : α} {l : List α} {i : Nat} : (a :: l).set (i + 1) b = a :: l.set i b := rfl
section
variable {P : Program} {ops : Array Oper} {Q : Exit → Act → World → Prop} {md : Region.Mode} {S : World → Prop}
/-- An operation that only reads is taken first: what is to be shown of it is found by itself. -/
theorem tk {i : Nat} {oi : Oper} {v : Value} {fuel : Nat} {listed : Array Bool} {a : Act} {w : World} (h : wpAnyH P md ops Q S fuel (listed.setIfInBounds i true) (a.put oi.dst v) w)
    (hi : ops[i]? = some oi := by (simp only [Go.Proofs.YticonaahlplbjaaGreatDoor.Tn.g1, Go.Proofs.YticonaahlplbjaaGreatDoor.Tn.g2, Go.Proofs.YticonaahlplbjaaGreatDoor.Tn.g3]; rfl))
    (hs : Region.noSelect ops = true := by kernel_rfl) (hf : Region.free md ops listed i = true := by kernel_rfl) (hr : (Region.ready md ops listed).contains i = true := by kernel_rfl)
    (hw : Region.wanted oi (yielded ops a.tmps) = true := by rfl) (hy : ∀ w, S w → (execOp a.eval oi).run P w = .ok (.value v) w := by (intro w hSw; (try dsimp only at hSw); go_simp; try with_reducible rfl))
    (hq : ∀ c a w, Q (.panic c) (a.put oi.dst v) w → Q (.panic c) a w := by exact fun _ _ _ h => h) (hS : S w := by assumption) : wpAnyH P md ops Q S (fuel + 1) listed a w :=
  wpAnyH_take hi hs hf hr hq (.inl ⟨hw, hy⟩) hS h
/-- An operation whose guard is struck is passed by. -/
theorem sk {i : Nat} {oi : Oper} {fuel : Nat} {listed : Array Bool} {a : Act} {w : World} (h : wpAnyH P md ops Q S fuel (listed.setIfInBounds i true) (a.put oi.dst undef) w)
    (hi : ops[i]? = some oi := by (simp only [Go.Proofs.YticonaahlplbjaaGreatDoor.Tn.g1, Go.Proofs.YticonaahlplbjaaGreatDoor.Tn.g2, Go.Proofs.YticonaahlplbjaaGreatDoor.Tn.g3]; rfl))
    (hs : Region.noSelect ops = true := by kernel_rfl) (hf : Region.free md ops listed i = true := by kernel_rfl) (hr : (Region.ready md ops listed).contains i = true := by kernel_rfl)
    (hw : Region.wanted oi (yielded ops a.tmps) = false := by rfl) (hq : ∀ c a w, Q (.panic c) (a.put oi.dst undef) w → Q (.panic c) a w := by exact fun _ _ _ h => h) (hS : S w := by assumption) : wpAnyH P md ops Q S (fuel + 1) listed a w :=
  wpAnyH_take hi hs hf hr hq (.inr ⟨hw, rfl⟩) hS h
end
/-- A float that is no number. -/
def isN (w n : Int) : Prop := if w = 32 then ((n / 8388608) % 256 = 255 ∧ n % 8388608 ≠ 0) else ((n / 4503599627370496) % 2048 = 2047 ∧ n % 4503599627370496 ≠ 0)
/-- The canonical one. -/
def cN (w : Int) : Int := if w = 32 then 2143289344 else 9221120237041090560
def u64 (n : Int) : Prop := 0 ≤ n ∧ n < 18446744073709551616
/-- A float that is a number, or the canonical NaN. -/
def Good (w n : Int) : Prop := u64 n ∧ (¬ isN w n ∨ n = cN w)
/-- What a float's parts are like. -/
structure Parts (w n : Int) (neg : Bool) (k ex s : Int) : Prop where
  kind : k = 0 ∨ k = 1 ∨ k = 2 ∨ k = 3
  nan : k = 3 ↔ isN w n
  fin : k = 1 → 0 < s ∧ s < 9007199254740992 ∧ -2000 ≤ ex ∧ ex ≤ 2000
  non : k ≠ 1 → ex = 0 ∧ s = 0
end Go.Proofs.YticonaahlplbjaaGreatDoor.Tn
