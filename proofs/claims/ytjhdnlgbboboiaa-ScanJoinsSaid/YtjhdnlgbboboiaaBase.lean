/- What the walks of this seat share: the imports, and a fact on bytes. -/
import Derived.Test.YtjhdnlgbboboiaaProg
import Derived.Below
import Derived.Deep.Draws
import Derived.Deep.AppendLies
import Derived.Maps.AppendAt
import Derived.OwnWalk
import Derived.Laws.BytesArg
import Derived.Laws.MakeOwn
import Derived.Laws.OwnMore
import Derived.Deep.OwnRows
import Derived.Tactics
import Derived.Lib.ConvBytes
import Derived.Laws.Slices
import Derived.WalkKit
import Derived.KernelRfl
import Derived.RowKit3
import Derived.Deep.LoopGhost
import Derived.Deep.QuietTactic
import Derived.BigQuiet
import Derived.WideLaws
import Derived.Deep.DeepCutAuto
import Derived.Deep.CutBlock
import Derived.Deep.RegionHeld3
import Derived.Laws.Rows
import Derived.Lib.AppendStr
import Derived.ArgAppend
import Derived.Laws.IdiomCopy
import Derived.OrdersHeld
import Derived.Laws.BitsLemmas
import Derived.RowKit
import Derived.Test.YtjhdnlgbboboiaaWWords
import Derived.Test.YtjhdnlgbboboiaaWLast
import Derived.Test.YtjhdnlgbboboiaaWTab
import Derived.Test.YtjhdnlgbboboiaaWFour
import Derived.Test.YtjhdnlgbboboiaaWQPut
import Derived.Test.YtjhdnlgbboboiaaWApart
import Derived.Test.YtjhdnlgbboboiaaWArr
import Derived.Test.YtjhdnlgbboboiaaWZeros
import Derived.Test.YtjhdnlgbboboiaaWFoot
import Derived.Test.YtjhdnlgbboboiaaWKept
import Derived.Test.YtjhdnlgbboboiaaWShare
import Derived.Test.YtjhdnlgbboboiaaWN
import Derived.Test.YtjhdnlgbboboiaaWFootNe
import Derived.Test.YtjhdnlgbboboiaaWAt
import Derived.Test.YtjhdnlgbboboiaaWEqStruct
import Derived.Test.YtjhdnlgbboboiaaWRepsOne
import Derived.Test.YtjhdnlgbboboiaaWInv
import Derived.Test.YtjhdnlgbboboiaaWInvWords
import Derived.Test.YtjhdnlgbboboiaaWGuard
import Derived.Test.YtjhdnlgbboboiaaWNEv
import Derived.Test.YtjhdnlgbboboiaaWMore
namespace Go.Proofs.Ytjhdnlgbboboiaa.Base
open Go.RowKit Go.Proofs.YtjhdnlgbboboiaaW.PrintWords Go.Proofs.YtjhdnlgbboboiaaW.PrintLast Go.Proofs.YtjhdnlgbboboiaaW.PrintMore

theorem info5 : (Try.prog.info? 5).map (fun i => (i.zero, i.size, i.bytes)) = some (some (.int .u8 0), 1, 1) := by kernel_rfl

theorem bset {B g : Nat} {w W : World} (h : Below B w W) (hg : B ≤ g) (j : Nat) (v : Value) : Below B w (W.setCell ⟨g, j, none⟩ v) := h.setCell hg v

theorem bytes_drop (A : Option Addr) (c : Nat) (xs : List Int) (j : Int) (h0 : 0 ≤ j) (hm : j ≤ xs.length) (hc : xs.length ≤ c) :
    ∃ A' : Option Addr, (∀ W : World, (Instr.slice 22 (.slice A xs.length c) (some (.int .i64 j)) none none).run Try.prog W = .ok (.slice A' (xs.drop j.toNat).length (c - j.toNat)) W) ∧
      (∀ w : World, Kd.C (Kd.int .u8) w A xs.length xs → Kd.C (Kd.int .u8) w A' (xs.drop j.toNat).length (xs.drop j.toNat)) ∧ (xs.drop j.toNat).length ≤ c - j.toNat := by
  obtain ⟨i0, hi, hz⟩ := Option.map_eq_some_iff.1 info5
  simp only [Prod.mk.injEq] at hz
  obtain ⟨A', h1, h2, h3⟩ := print_drop_of (P := Try.prog) (Value.int .u8) (0 : Int) 22 5 .i64 Try.underlying22 hi hz.2.1 A c xs j h0 hm hc
  exact ⟨A', h1, fun w h => Kd.C_of_reads (h2 w (Kd.reads_of_C (enc := Value.int .u8) (d := (0 : Int)) (h1 := fun _ => rfl) h)), h3⟩
theorem bytes_at {w : World} {A : Option Addr} {n : Nat} {xs : List Int} (h : Kd.C (Kd.int .u8) w A n xs) (i : Int) (h0 : 0 ≤ i) (h1 : i < n) : ∃ ad, A = some ad ∧ w.cell? (ad.add i.toNat) = some (.int .u8 (rd xs i)) :=
  ReadsOf.at_ (Kd.reads_of_C (enc := Value.int .u8) (d := (0 : Int)) (h1 := fun _ => rfl) h) i h0 h1

theorem C_lit (W : World) (xs : List Int) (hm : xs.length ≤ 1000) : Kd.C (Kd.int .u8) (W.alloc (.cells (nums .u8 xs).toArray 5)) (some ⟨W.heap.size, 0, none⟩) xs.length xs := by
  obtain ⟨A, c, he, h⟩ := own_reads (own_lit W 0 5 .u8 xs (by omega) (by omega))
  injection he with ha _ _
  subst ha
  exact Kd.C_of_reads h

end Go.Proofs.Ytjhdnlgbboboiaa.Base
