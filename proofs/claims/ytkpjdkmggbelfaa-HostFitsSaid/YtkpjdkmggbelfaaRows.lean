/-
  NARROWER THAN 'FOR EVERY INPUT', by the rows' own cells (each row's printed sentence says how): LinkNames: loops.
  DERIVED. THE GIVEN ROWS OF THIS SEAT. 9 by the template 'for every input the law returns true; each argument reads behind the call as it read before'; 0 by the template 'total and deterministic' (their statements: YtkpjdkmggbelfaaTotals.lean).
  GIVEN WITH THE SEED: the statements are not yours to turn. If you find one false, say at which input.
  Laid BY PROGRAM, IN A SANDBOX (cutbox-rows.mjs): the forced cells as the released guide's own fill.sh prints them over the translation 048f6cacad974685… (all of the seat's roots in one cut). By AI agents, Wed Nov 11 2026. No macro, syntax, notation, axiom, sorry.
-/
import Derived.Test.YtkpjdkmggbelfaaChecked
import GoSem.Claim
import GoSem.ClaimJoined
import GoSem.ClaimMapViews
import Derived.JoinedTies
import Derived.KernelRfl
namespace Go.Proofs.Ytkpjdkmggbelfaa
/- THE CELL 'sum', in the pinned program and in every row, IS THE sha256 OF THE DUMP (.gsa) THAT YtkpjdkmggbelfaaProg.lean LOADS. Nothing in Lean hashes anything: it is a label: what it is worth is what the hold of that sum in a sandbox is worth. -/
noncomputable def Try.pinned : Pinned := { name := "ytkpjdkmggbelfaa", sum := "048f6cacad9746857aed9175bd7a67cd8f76eee6e19af0062a9aa214386167d7", checked := Try.checked }
namespace Rows
def none {H : Type} : Left H := { results := [], args := [] }

/-- 'trunnionlaw29.LinkMatches': WHATEVER THE INPUT: true; the input reads as it did. -/
def linkMatchesSpec : ChangeSpec := { name := "linkMatches", fn := fun _ => fun
  | [d1, d2] => { results := [.lit (.bool true)], args := [d1, d2] }
  | _ => none }
def linkMatchesRow : OpenClaim := { program := "ytkpjdkmggbelfaa", sum := "048f6cacad9746857aed9175bd7a67cd8f76eee6e19af0062a9aa214386167d7", func := "trunnion/trunnionlaw29.LinkMatches", spec := "linkMatches", unfollowed := true, recurses := true, apart := false }
def LinkMatchesSaid : Prop := linkMatchesRow.holds Try.pinned (OpenSpec.ofChange linkMatchesSpec)

/-- ITS FALSE NEIGHBOUR: 'it returns false'. Refute it at one input. -/
def linkMatchesWrong : ChangeSpec := { name := "linkMatches", fn := fun _ => fun
  | [d1, d2] => { results := [.lit (.bool false)], args := [d1, d2] }
  | _ => none }
def LinkMatchesWrongFalsely : Prop := linkMatchesRow.holds Try.pinned (OpenSpec.ofChange linkMatchesWrong)

/-- 'trunnionlaw29.LinkKeeps': WHATEVER THE INPUT: true; the input reads as it did. -/
def linkKeepsSpec : ChangeSpec := { name := "linkKeeps", fn := fun _ => fun
  | [d1, d2, d3] => { results := [.lit (.bool true)], args := [d1, d2, d3] }
  | _ => none }
def linkKeepsRow : OpenClaim := { program := "ytkpjdkmggbelfaa", sum := "048f6cacad9746857aed9175bd7a67cd8f76eee6e19af0062a9aa214386167d7", func := "trunnion/trunnionlaw29.LinkKeeps", spec := "linkKeeps", unfollowed := true, recurses := true, apart := false }
def LinkKeepsSaid : Prop := linkKeepsRow.holds Try.pinned (OpenSpec.ofChange linkKeepsSpec)

/-- ITS FALSE NEIGHBOUR: 'it returns false'. Refute it at one input. -/
def linkKeepsWrong : ChangeSpec := { name := "linkKeeps", fn := fun _ => fun
  | [d1, d2, d3] => { results := [.lit (.bool false)], args := [d1, d2, d3] }
  | _ => none }
def LinkKeepsWrongFalsely : Prop := linkKeepsRow.holds Try.pinned (OpenSpec.ofChange linkKeepsWrong)

/-- 'trunnionlaw29.LinkNames': WHATEVER THE INPUT: true; the input reads as it did. -/
def linkNamesSpec : ChangeSpec := { name := "linkNames", fn := fun _ => fun
  | [d] => { results := [.lit (.bool true)], args := [d] }
  | _ => none }
def linkNamesRow : OpenClaim := { program := "ytkpjdkmggbelfaa", sum := "048f6cacad9746857aed9175bd7a67cd8f76eee6e19af0062a9aa214386167d7", func := "trunnion/trunnionlaw29.LinkNames", spec := "linkNames", unfollowed := true, recurses := true, loops := true, apart := false }
def LinkNamesSaid : Prop := linkNamesRow.holds Try.pinned (OpenSpec.ofChange linkNamesSpec)

/-- ITS FALSE NEIGHBOUR: 'it returns false'. Refute it at one input. -/
def linkNamesWrong : ChangeSpec := { name := "linkNames", fn := fun _ => fun
  | [d] => { results := [.lit (.bool false)], args := [d] }
  | _ => none }
def LinkNamesWrongFalsely : Prop := linkNamesRow.holds Try.pinned (OpenSpec.ofChange linkNamesWrong)

/-- 'trunnionlaw32.HostPlays': WHATEVER THE INPUT: true; the input reads as it did. -/
def hostPlaysSpec : ChangeSpec := { name := "hostPlays", fn := fun _ => fun
  | [d] => { results := [.lit (.bool true)], args := [d] }
  | _ => none }
def hostPlaysRow : OpenClaim := { program := "ytkpjdkmggbelfaa", sum := "048f6cacad9746857aed9175bd7a67cd8f76eee6e19af0062a9aa214386167d7", func := "trunnion/trunnionlaw32.HostPlays", spec := "hostPlays", unfollowed := true, recurses := true, apart := false }
def HostPlaysSaid : Prop := hostPlaysRow.holds Try.pinned (OpenSpec.ofChange hostPlaysSpec)

/-- ITS FALSE NEIGHBOUR: 'it returns false'. Refute it at one input. -/
def hostPlaysWrong : ChangeSpec := { name := "hostPlays", fn := fun _ => fun
  | [d] => { results := [.lit (.bool false)], args := [d] }
  | _ => none }
def HostPlaysWrongFalsely : Prop := hostPlaysRow.holds Try.pinned (OpenSpec.ofChange hostPlaysWrong)

/-- 'trunnionlaw32.HostNone': WHATEVER THE INPUT: true; the input reads as it did. -/
def hostNoneSpec : ChangeSpec := { name := "hostNone", fn := fun _ => fun
  | [d] => { results := [.lit (.bool true)], args := [d] }
  | _ => none }
def hostNoneRow : OpenClaim := { program := "ytkpjdkmggbelfaa", sum := "048f6cacad9746857aed9175bd7a67cd8f76eee6e19af0062a9aa214386167d7", func := "trunnion/trunnionlaw32.HostNone", spec := "hostNone", unfollowed := true, recurses := true, apart := false }
def HostNoneSaid : Prop := hostNoneRow.holds Try.pinned (OpenSpec.ofChange hostNoneSpec)

/-- ITS FALSE NEIGHBOUR: 'it returns false'. Refute it at one input. -/
def hostNoneWrong : ChangeSpec := { name := "hostNone", fn := fun _ => fun
  | [d] => { results := [.lit (.bool false)], args := [d] }
  | _ => none }
def HostNoneWrongFalsely : Prop := hostNoneRow.holds Try.pinned (OpenSpec.ofChange hostNoneWrong)

/-- 'trunnionlaw32.HostFits': WHATEVER THE INPUT: true; the input reads as it did. -/
def hostFitsSpec : ChangeSpec := { name := "hostFits", fn := fun _ => fun
  | [d1, d2, d3] => { results := [.lit (.bool true)], args := [d1, d2, d3] }
  | _ => none }
def hostFitsRow : OpenClaim := { program := "ytkpjdkmggbelfaa", sum := "048f6cacad9746857aed9175bd7a67cd8f76eee6e19af0062a9aa214386167d7", func := "trunnion/trunnionlaw32.HostFits", spec := "hostFits", unfollowed := true, recurses := true, apart := false }
def HostFitsSaid : Prop := hostFitsRow.holds Try.pinned (OpenSpec.ofChange hostFitsSpec)

/-- ITS FALSE NEIGHBOUR: 'it returns false'. Refute it at one input. -/
def hostFitsWrong : ChangeSpec := { name := "hostFits", fn := fun _ => fun
  | [d1, d2, d3] => { results := [.lit (.bool false)], args := [d1, d2, d3] }
  | _ => none }
def HostFitsWrongFalsely : Prop := hostFitsRow.holds Try.pinned (OpenSpec.ofChange hostFitsWrong)

/-- 'trunnionlaw22.OperandBack': WHATEVER THE INPUT: true; the input reads as it did. -/
def operandBackSpec : ChangeSpec := { name := "operandBack", fn := fun _ => fun
  | [d1, d2, d3] => { results := [.lit (.bool true)], args := [d1, d2, d3] }
  | _ => none }
def operandBackRow : OpenClaim := { program := "ytkpjdkmggbelfaa", sum := "048f6cacad9746857aed9175bd7a67cd8f76eee6e19af0062a9aa214386167d7", func := "trunnion/trunnionlaw22.OperandBack", spec := "operandBack", apart := false }
def OperandBackSaid : Prop := operandBackRow.holds Try.pinned (OpenSpec.ofChange operandBackSpec)

/-- ITS FALSE NEIGHBOUR: 'it returns false'. Refute it at one input. -/
def operandBackWrong : ChangeSpec := { name := "operandBack", fn := fun _ => fun
  | [d1, d2, d3] => { results := [.lit (.bool false)], args := [d1, d2, d3] }
  | _ => none }
def OperandBackWrongFalsely : Prop := operandBackRow.holds Try.pinned (OpenSpec.ofChange operandBackWrong)

/-- 'trunnionlaw22.OperandPlays': WHATEVER THE INPUT: true; the input reads as it did. -/
def operandPlaysSpec : ChangeSpec := { name := "operandPlays", fn := fun _ => fun
  | [d] => { results := [.lit (.bool true)], args := [d] }
  | _ => none }
def operandPlaysRow : OpenClaim := { program := "ytkpjdkmggbelfaa", sum := "048f6cacad9746857aed9175bd7a67cd8f76eee6e19af0062a9aa214386167d7", func := "trunnion/trunnionlaw22.OperandPlays", spec := "operandPlays", apart := false }
def OperandPlaysSaid : Prop := operandPlaysRow.holds Try.pinned (OpenSpec.ofChange operandPlaysSpec)

/-- ITS FALSE NEIGHBOUR: 'it returns false'. Refute it at one input. -/
def operandPlaysWrong : ChangeSpec := { name := "operandPlays", fn := fun _ => fun
  | [d] => { results := [.lit (.bool false)], args := [d] }
  | _ => none }
def OperandPlaysWrongFalsely : Prop := operandPlaysRow.holds Try.pinned (OpenSpec.ofChange operandPlaysWrong)

/-- 'trunnionlaw22.OperandNone': WHATEVER THE INPUT: true; the input reads as it did. -/
def operandNoneSpec : ChangeSpec := { name := "operandNone", fn := fun _ => fun
  | [d] => { results := [.lit (.bool true)], args := [d] }
  | _ => none }
def operandNoneRow : OpenClaim := { program := "ytkpjdkmggbelfaa", sum := "048f6cacad9746857aed9175bd7a67cd8f76eee6e19af0062a9aa214386167d7", func := "trunnion/trunnionlaw22.OperandNone", spec := "operandNone", apart := false }
def OperandNoneSaid : Prop := operandNoneRow.holds Try.pinned (OpenSpec.ofChange operandNoneSpec)

/-- ITS FALSE NEIGHBOUR: 'it returns false'. Refute it at one input. -/
def operandNoneWrong : ChangeSpec := { name := "operandNone", fn := fun _ => fun
  | [d] => { results := [.lit (.bool false)], args := [d] }
  | _ => none }
def OperandNoneWrongFalsely : Prop := operandNoneRow.holds Try.pinned (OpenSpec.ofChange operandNoneWrong)

/- THE SECOND FORM. 'bulk': how many values and letters a reading holds, each counted each time it is reached (what is shared counts as often as it is met; a slice's spare places count too). A statement '..UptoSaid' is the law's where the arguments, and the package variables that the reading takes, are together of bulk at most 1048576: NARROWER than '..Said'. Prove '..Said' where nothing that the law and all that it calls make is longer than what came in: it says more and counts as full. Else prove '..UptoSaid'. A law counts once. -/
mutual
def uptoBulk {H : Type} : DataW H → Nat
  | .lit (.string bytes) => bytes.length + 1
  | .lit _ => 1
  | .nil => 1
  | .ptr d => uptoBulk d + 1
  | .slice elems spare => uptoBulkAll elems + uptoBulkAll spare + 1
  | .agg parts => uptoBulkAll parts + 1
  | .iface _ d => uptoBulk d + 1
  | .map entries => uptoBulkEntries entries + 1
  | .held _ => 1
def uptoBulkAll {H : Type} : List (DataW H) → Nat
  | [] => 0
  | d :: r => uptoBulk d + uptoBulkAll r
def uptoBulkEntries {H : Type} : List (Lit × DataW H) → Nat
  | [] => 0
  | x :: r => uptoBulkEntry x + uptoBulkEntries r
def uptoBulkEntry {H : Type} : Lit × DataW H → Nat
  | (.string bytes, d) => bytes.length + uptoBulk d + 1
  | (_, d) => uptoBulk d + 1
 end
def uptoSmall : (H : Type) → List (DataW H) → Bool := fun _ ds => decide (uptoBulkAll ds ≤ 1048576)
def OpenSpec.upto (s : _root_.Go.ChangeSpec) : _root_.Go.OpenSpec := { _root_.Go.OpenSpec.ofChange s with cond := some uptoSmall }

/-- 'trunnionlaw29.LinkMatches', WHERE WHAT IT READS IS OF BULK AT MOST 1048576: true; the input reads as it did. -/
def linkMatchesUptoRow : OpenClaim := { program := "ytkpjdkmggbelfaa", sum := "048f6cacad9746857aed9175bd7a67cd8f76eee6e19af0062a9aa214386167d7", func := "trunnion/trunnionlaw29.LinkMatches", spec := "linkMatches", unfollowed := true, recurses := true, apart := false, narrowed := true }
def LinkMatchesUptoSaid : Prop := linkMatchesUptoRow.holds Try.pinned (OpenSpec.upto linkMatchesSpec)

/-- 'trunnionlaw29.LinkKeeps', WHERE WHAT IT READS IS OF BULK AT MOST 1048576: true; the input reads as it did. -/
def linkKeepsUptoRow : OpenClaim := { program := "ytkpjdkmggbelfaa", sum := "048f6cacad9746857aed9175bd7a67cd8f76eee6e19af0062a9aa214386167d7", func := "trunnion/trunnionlaw29.LinkKeeps", spec := "linkKeeps", unfollowed := true, recurses := true, apart := false, narrowed := true }
def LinkKeepsUptoSaid : Prop := linkKeepsUptoRow.holds Try.pinned (OpenSpec.upto linkKeepsSpec)

/-- 'trunnionlaw29.LinkNames', WHERE WHAT IT READS IS OF BULK AT MOST 1048576: true; the input reads as it did. -/
def linkNamesUptoRow : OpenClaim := { program := "ytkpjdkmggbelfaa", sum := "048f6cacad9746857aed9175bd7a67cd8f76eee6e19af0062a9aa214386167d7", func := "trunnion/trunnionlaw29.LinkNames", spec := "linkNames", unfollowed := true, recurses := true, loops := true, apart := false, narrowed := true }
def LinkNamesUptoSaid : Prop := linkNamesUptoRow.holds Try.pinned (OpenSpec.upto linkNamesSpec)

/-- 'trunnionlaw32.HostPlays', WHERE WHAT IT READS IS OF BULK AT MOST 1048576: true; the input reads as it did. -/
def hostPlaysUptoRow : OpenClaim := { program := "ytkpjdkmggbelfaa", sum := "048f6cacad9746857aed9175bd7a67cd8f76eee6e19af0062a9aa214386167d7", func := "trunnion/trunnionlaw32.HostPlays", spec := "hostPlays", unfollowed := true, recurses := true, apart := false, narrowed := true }
def HostPlaysUptoSaid : Prop := hostPlaysUptoRow.holds Try.pinned (OpenSpec.upto hostPlaysSpec)

/-- 'trunnionlaw32.HostNone', WHERE WHAT IT READS IS OF BULK AT MOST 1048576: true; the input reads as it did. -/
def hostNoneUptoRow : OpenClaim := { program := "ytkpjdkmggbelfaa", sum := "048f6cacad9746857aed9175bd7a67cd8f76eee6e19af0062a9aa214386167d7", func := "trunnion/trunnionlaw32.HostNone", spec := "hostNone", unfollowed := true, recurses := true, apart := false, narrowed := true }
def HostNoneUptoSaid : Prop := hostNoneUptoRow.holds Try.pinned (OpenSpec.upto hostNoneSpec)

/-- 'trunnionlaw32.HostFits', WHERE WHAT IT READS IS OF BULK AT MOST 1048576: true; the input reads as it did. -/
def hostFitsUptoRow : OpenClaim := { program := "ytkpjdkmggbelfaa", sum := "048f6cacad9746857aed9175bd7a67cd8f76eee6e19af0062a9aa214386167d7", func := "trunnion/trunnionlaw32.HostFits", spec := "hostFits", unfollowed := true, recurses := true, apart := false, narrowed := true }
def HostFitsUptoSaid : Prop := hostFitsUptoRow.holds Try.pinned (OpenSpec.upto hostFitsSpec)

/-- 'trunnionlaw22.OperandBack', WHERE WHAT IT READS IS OF BULK AT MOST 1048576: true; the input reads as it did. -/
def operandBackUptoRow : OpenClaim := { program := "ytkpjdkmggbelfaa", sum := "048f6cacad9746857aed9175bd7a67cd8f76eee6e19af0062a9aa214386167d7", func := "trunnion/trunnionlaw22.OperandBack", spec := "operandBack", apart := false, narrowed := true }
def OperandBackUptoSaid : Prop := operandBackUptoRow.holds Try.pinned (OpenSpec.upto operandBackSpec)

/-- 'trunnionlaw22.OperandPlays', WHERE WHAT IT READS IS OF BULK AT MOST 1048576: true; the input reads as it did. -/
def operandPlaysUptoRow : OpenClaim := { program := "ytkpjdkmggbelfaa", sum := "048f6cacad9746857aed9175bd7a67cd8f76eee6e19af0062a9aa214386167d7", func := "trunnion/trunnionlaw22.OperandPlays", spec := "operandPlays", apart := false, narrowed := true }
def OperandPlaysUptoSaid : Prop := operandPlaysUptoRow.holds Try.pinned (OpenSpec.upto operandPlaysSpec)

/-- 'trunnionlaw22.OperandNone', WHERE WHAT IT READS IS OF BULK AT MOST 1048576: true; the input reads as it did. -/
def operandNoneUptoRow : OpenClaim := { program := "ytkpjdkmggbelfaa", sum := "048f6cacad9746857aed9175bd7a67cd8f76eee6e19af0062a9aa214386167d7", func := "trunnion/trunnionlaw22.OperandNone", spec := "operandNone", apart := false, narrowed := true }
def OperandNoneUptoSaid : Prop := operandNoneUptoRow.holds Try.pinned (OpenSpec.upto operandNoneSpec)

end Rows
end Go.Proofs.Ytkpjdkmggbelfaa
