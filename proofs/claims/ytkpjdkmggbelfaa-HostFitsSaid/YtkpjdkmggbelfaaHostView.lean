/- What of the reference's queue is read; when the two agree. -/
import Derived.Test.YtkpjdkmggbelfaaHostWords
namespace Go.Proofs.Ytkpjdkmggbelfaa.Host
open Go.RowKit Go.Proofs.YtkpjdkmggbelfaaW.PrintWords Go.Proofs.YtkpjdkmggbelfaaW.PrintLast Go.Proofs.YtkpjdkmggbelfaaW.PrintMore Go.Proofs.Ytkpjdkmggbelfaa.Mem Go.Proofs.Ytkpjdkmggbelfaa.PHostPlays
set_option linter.unusedVariables false
set_option linter.unusedSimpArgs false
def cvA (x : S109) : S112 := ⟨x.f0, x.f1⟩
def cvC (x : S156) : S164 := ⟨x.f0, x.f1⟩
/-- The reference's queue, as it is read. -/
structure RView (W : World) (g : Nat) (A0 : Option Addr) (c0 : Nat) (AN : List S112) (A1 : Option Addr) (c1 : Nat) (GS : List Bool) (A2 : Option Addr) (c2 : Nat) (CS : List S164) (na ng : Int) : Prop where
  box : W.heap[g]? = some (.cells #[.slice A0 AN.length c0, .slice A1 GS.length c1, .int .i64 na, .int .i64 ng, .slice A2 CS.length c2] 74 (0, 0))
  ra : k112.C W A0 AN.length AN
  rg : Kd.bool.C W A1 GS.length GS
  rc : k164.C W A2 CS.length CS
  la : AN.length ≤ c0
  lg : GS.length ≤ c1
  lc : CS.length ≤ c2
theorem RView.below {W W' : World} {g : Nat} {A0 : Option Addr} {c0 : Nat} {AN : List S112} {A1 : Option Addr} {c1 : Nat} {GS : List Bool} {A2 : Option Addr} {c2 : Nat} {CS : List S164} {na ng : Int}
    (h : RView W g A0 c0 AN A1 c1 GS A2 c2 CS na ng) (hb : Below W.heap.size W W') : RView W' g A0 c0 AN A1 c1 GS A2 c2 CS na ng :=
  ⟨(hb.block g (blk_lt h.box)).trans h.box, Kd.C_below h.ra hb, Kd.C_below h.rg hb, Kd.C_below h.rc hb, h.la, h.lg, h.lc⟩
theorem Rs.view {base : Nat} {W : World} {g : Nat} {tag : Nat → Nat} {an : List S112} {gs : List Bool} {cs : List S164} {va vg vc : Value} {na ng : Int} (h : Rs base W g tag an gs cs va vg vc na ng) :
    ∃ A0 c0 A1 c1 A2 c2, RView W g A0 c0 an A1 c1 gs A2 c2 cs na ng := by
  obtain ⟨A0, c0, rfl⟩ := h.ra.one
  obtain ⟨A1, c1, rfl⟩ := h.rg.one
  obtain ⟨A2, c2, rfl⟩ := h.rc.one
  exact ⟨A0, c0, A1, c1, A2, c2, h.box, Kd.F_now h.ra.F.2.2, Kd.F_now h.rg.F.2.2, Kd.F_now h.rc.F.2.2, h.ra.F.2.1, h.rg.F.2.1, h.rc.F.2.1⟩
end Go.Proofs.Ytkpjdkmggbelfaa.Host
