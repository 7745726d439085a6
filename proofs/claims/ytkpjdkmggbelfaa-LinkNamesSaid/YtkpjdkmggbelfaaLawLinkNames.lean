/- Of any module the imports' names are told in order: the row, for every input. -/
import Derived.Test.YtkpjdkmggbelfaaRows
import Derived.Test.YtkpjdkmggbelfaaLinkNamesLaw
import Derived.WalkKit
import Derived.ProofKit
import Derived.OpenShut
import Derived.ShutString
import Derived.ChangeOld
import Derived.Below
import Derived.SizedLaws
namespace Go.Proofs.Ytkpjdkmggbelfaa.linkNames
open Go.ChangeShapes Go.WideShapes Go.ChangeAt Go.RowKit
set_option linter.unusedVariables false
theorem own : ownKnob Try.prog.godebug = none := by kernel_rfl
theorem laidOut : laidOutB Try.prog = true := by kernel_rfl
set_option maxRecDepth 100000 in
theorem lifted (os : Os) (started : os.Started) (H : Type) (enc : TypeId × Value → H) :
    ReturnsInHanded {} Try.checked os 5 .any (Rows.linkNamesSpec.pre6 enc Try.prog Try.f5 Rows.linkNamesRow.domain false) (Rows.linkNamesSpec.post enc Try.prog Try.f5 false true false false) := by
  refine returnsInHanded_of_change_sized (C := Try.checked) own started (by kernel_rfl) Try.func5
    (ChangeSpec.witness6 (enc := enc) (C := Try.checked) false ⟨#[], #[.agg #[.slice none 0 0, .slice none 0 0, .slice none 0 0, .slice none 0 0, .slice none 0 0, .slice none 0 0, .slice none 0 0, .bool false, .int .u32 0, .slice none 0 0, .slice none 0 0]], []⟩ 8 (by kernel_rfl) (by kernel_rfl) (by kernel_rfl) (by kernel_rfl)) ?_
  intro W base args ds gs before hval0 hW hcnd hsz0 _
  have hval : ∀ (j : Nat) t v, Try.f5.params[j]? = some t → args[j]? = some v → Value.okWide Try.prog W .any base t v := hval0
  have hW' := hW
  obtain ⟨p, q, hA0, hV, rfl, hfz, hnd⟩ := hW
  have hA : DataW.TrodAll enc Try.prog W 0 (fun _ => true) true Try.f5.params.toList args.toList ds p := hA0
  rw [Try.params5] at hA hval
  obtain ⟨v0, vs0, d0, ds0, p0, q0, hargs, rfl, rfl, h0, r0⟩ := trodAll_cons hA
  obtain ⟨rfl, rfl, rfl⟩ := trodAll_nil r0
  obtain rfl : args = #[v0] := by cases args; simp_all
  obtain ⟨rfl, rfl⟩ := trodVars_none hV
  obtain ⟨cs0, rfl, hs0⟩ := okWide_struct Try.underlying58 (hval 0 58 v0 rfl rfl)
  have k0 := h0
  have lt0 : ∀ x ∈ p0, x.block < W.heap.size := by obtain ⟨m, hm⟩ := k0; exact DataW.trod_lt m _ _ _ hm
  obtain ⟨fuel0, hf0⟩ := h0
  obtain ⟨X, hk, hok⟩ := (Opn.open58 fuel0).2 _ _ hf0
  obtain ⟨A0, c0, A1, c1, A2, c2, A3, c3, A4, c4, A5, c5, A6, c6, A9, c9, A10, c10, e0, hc0, hr0, hc1, hr1, hc2, hr2, hc3, hr3, hc4, hr4, hc5, hr5, hc6, hr6, hc9, hr9, hc10, hr10⟩ := Opn.k58_open hk
  obtain rfl : cs0 = #[.slice A0 X.f0.length c0, .slice A1 X.f1.length c1, .slice A2 X.f2.length c2, .slice A3 X.f3.length c3, .slice A4 X.f4.length c4, .slice A5 X.f5.length c5, .slice A6 X.f6.length c6, .bool X.f7, .int .u32 X.f8, .slice A9 X.f9.length c9, .slice A10 X.f10.length c10] := Array.toList_inj.1 e0
  clear hA0 hval0 hsz0
  refine (Names.law_walk W A0 c0 X.f0 A1 c1 X.f1 A2 c2 X.f2 A3 c3 X.f3 A4 c4 X.f4 A5 c5 X.f5 A6 c6 X.f6 X.f7 X.f8 A9 c9 X.f9 A10 c10 X.f10 hr0 hc0 hr1 hc1 hr2 hc2 hr3 hc3 hr4 hc4 hr5 hc5 hr6 hc6 hr9 hc9 hr10 hc10 hok).mono fun e W' ⟨he, bel⟩ => ?_
  subst he
  exact ⟨_, rfl, _, _, _, [], _, [], hW', trodAll_mk1 (shut_bool Try.underlying4 _), (trodAll_cons_mk (Below.trod laidOut (by kernel_rfl) (of_decide_eq_true (by kernel_rfl)) k0 bel lt0) trodAll_mk0), rfl, bel.frame _, fun h => by cases h⟩
theorem over : Rows.linkNamesRow.holds Try.pinned (OpenSpec.ofChange Rows.linkNamesSpec) :=
  OpenClaim.holds_of_wide 5 Try.f5 rfl rfl rfl rfl rfl rfl rfl ⟨rfl, rfl, rfl, rfl, rfl⟩ rfl rfl rfl rfl rfl (by kernel_rfl) Try.func5 (by kernel_rfl)
    (of_decide_eq_true (by kernel_rfl)) (by unfold Func.isWrapper; first | (rw [if_pos (by decide +kernel)]; kernel_rfl) | (rw [if_neg (by decide +kernel)]; exact ⟨rfl, rfl⟩))
    (fun os started H enc _ => lifted os started H enc)
theorem proved : Rows.LinkNamesSaid := over
#print axioms proved
end Go.Proofs.Ytkpjdkmggbelfaa.linkNames
namespace Go.Proofs.Ytkpjdkmggbelfaa
/-- The row, under a short name, for the claim. -/
theorem linkNames_holds : Rows.LinkNamesSaid := linkNames.proved
end Go.Proofs.Ytkpjdkmggbelfaa
