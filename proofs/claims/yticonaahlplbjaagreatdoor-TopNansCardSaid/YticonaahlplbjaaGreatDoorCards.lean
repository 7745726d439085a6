/-
  DERIVED. GIVEN WITH THE SEED: THE CARDS: each row of YticonaahlplbjaaGreatDoorRows.lean that lists a variable, with what it lists TIED to the program's text (the seventh form; the later family's looks); each row that meets fmt, with fmt's text TOLD by the authors' own Lean function (tested against real Go, not proved from fmt's source: count such statements apart). THE CARD IS WHAT COUNTS. Prove the row's statement (the work); the ties are given (YticonaahlplbjaaGreatDoorTie.lean); close each card by the builder's one call (the guide's Derived/Test/ToyasCard.lean, 'card_holds'). Laid BY PROGRAM, IN A SANDBOX (cutbox-door.mjs). By AI agents, Wed Nov 11 2026. No macro, syntax, notation, axiom, sorry.
-/
import Derived.Test.YticonaahlplbjaaGreatDoorRows
import GoSem.ClaimSeven
namespace Go.Proofs.YticonaahlplbjaaGreatDoor
namespace Rows

/-- THE TIED CARD OF 'trunniontop.TopNans'. -/
def topNansCard : Claim7 := { stood := { row := topNansRow, standIns := [], harness := (true, "b8957728ce11f580161b62b200ec258b35f3e0802ac588384ee729a519046dc7"), looks := false }, kinds := [], alts := [], laidByText := true, laidKinds := [.data], laidTests := true, laidLooks := .later }
def TopNansCardSaid : Prop := Claim7.holds Tryz.pinned (.plain (OpenSpec.ofChange topNansSpec)) topNansCard

/-- THE SECOND FORM's CARD OF 'trunniontop.TopNans'. -/
def topNansUptoCard : Claim7 := { stood := { row := topNansUptoRow, standIns := [], harness := (true, "b8957728ce11f580161b62b200ec258b35f3e0802ac588384ee729a519046dc7"), looks := false }, kinds := [], alts := [], laidByText := true, laidKinds := [.data], laidTests := true, laidLooks := .later }
def TopNansUptoCardSaid : Prop := Claim7.holds Tryz.pinned (.plain (OpenSpec.upto topNansSpec)) topNansUptoCard
end Rows
end Go.Proofs.YticonaahlplbjaaGreatDoor
