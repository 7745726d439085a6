/- Every type that is one matches itself; what matches what matches, matches; what has grown matches what it matched: the row, for every input. -/
import Derived.Test.YtkpjdkmggbelfaaRows
import Derived.Test.YtkpjdkmggbelfaaLinkKeepWalk
import Derived.WalkKit
import Derived.ProofKit
import Derived.OpenShut
import Derived.ShutString
import Derived.ChangeOld
import Derived.Below
import Derived.SizedLaws
namespace Go.Proofs.Ytkpjdkmggbelfaa.linkKeeps
open Go.ChangeShapes Go.WideShapes Go.ChangeAt Go.RowKit
open Go.ChangeMaps (open_string shut_string)
set_option linter.unusedVariables false
theorem own : ownKnob Try.prog.godebug = none := by kernel_rfl
theorem laidOut : laidOutB Try.prog = true := by kernel_rfl
theorem wf32 {n : Int} (h : (Lit.int .u32 n).wf = true) : 0 ≤ n ∧ n < 4294967296 := by
  simp only [Lit.wf, Bool.and_eq_true, decide_eq_true_eq] at h
  have h1 : IntKind.u32.min = 0 := rfl
  have h2 : IntKind.u32.max = 4294967295 := rfl
  rw [h1, h2] at h
  omega
set_option maxRecDepth 100000 in
theorem lifted (os : Os) (started : os.Started) (H : Type) (enc : TypeId × Value → H) :
    ReturnsInHanded {} Try.checked os 4 .any (Rows.linkKeepsSpec.pre6 enc Try.prog Try.f4 Rows.linkKeepsRow.domain false) (Rows.linkKeepsSpec.post enc Try.prog Try.f4 false true false false) := by
  refine returnsInHanded_of_change_sized (C := Try.checked) own started (by kernel_rfl) Try.func4
    (ChangeSpec.witness6 (enc := enc) (C := Try.checked) false ⟨#[], #[.agg #[.int .i64 0, .slice none 0 0, .slice none 0 0, .int .u32 0, .int .u32 0, .bool false, .int .u8 0, .bool false], .agg #[.int .i64 0, .slice none 0 0, .slice none 0 0, .int .u32 0, .int .u32 0, .bool false, .int .u8 0, .bool false], .agg #[.int .i64 0, .slice none 0 0, .slice none 0 0, .int .u32 0, .int .u32 0, .bool false, .int .u8 0, .bool false]], []⟩ 8 (by kernel_rfl) (by kernel_rfl) (by kernel_rfl) (by kernel_rfl)) ?_
  intro W base args ds gs before hval0 hW hcnd hsz0 _
  have hval : ∀ (j : Nat) t v, Try.f4.params[j]? = some t → args[j]? = some v → Value.okWide Try.prog W .any base t v := hval0
  have hW' := hW
  obtain ⟨p, q, hA0, hV, rfl, hfz, hnd⟩ := hW
  have hA : DataW.TrodAll enc Try.prog W 0 (fun _ => true) true Try.f4.params.toList args.toList ds p := hA0
  rw [Try.params4] at hA hval
  obtain ⟨v0, vs0, d0, ds0, p0, q0, hargs, rfl, rfl, h0, r0⟩ := trodAll_cons hA
  obtain ⟨v1, vs1, d1, ds1, p1, q1, rfl, rfl, rfl, h1, r1⟩ := trodAll_cons r0
  obtain ⟨v2, vs2, d2, ds2, p2, q2, rfl, rfl, rfl, h2, r2⟩ := trodAll_cons r1
  obtain ⟨rfl, rfl, rfl⟩ := trodAll_nil r2
  obtain rfl : args = #[v0, v1, v2] := by cases args; simp_all
  obtain ⟨rfl, rfl⟩ := trodVars_none hV
  obtain ⟨cs0, rfl, hs0⟩ := okWide_struct Try.underlying41 (hval 0 41 v0 rfl rfl)
  have k0 := h0
  have lt0 : ∀ x ∈ p0, x.block < W.heap.size := by obtain ⟨m, hm⟩ := k0; exact DataW.trod_lt m _ _ _ hm
  obtain ⟨cs1, rfl, hs1⟩ := okWide_struct Try.underlying41 (hval 1 41 v1 rfl rfl)
  have k1 := h1
  have lt1 : ∀ x ∈ p1, x.block < W.heap.size := by obtain ⟨m, hm⟩ := k1; exact DataW.trod_lt m _ _ _ hm
  obtain ⟨cs2, rfl, hs2⟩ := okWide_struct Try.underlying41 (hval 2 41 v2 rfl rfl)
  have k2 := h2
  have lt2 : ∀ x ∈ p2, x.block < W.heap.size := by obtain ⟨m, hm⟩ := k2; exact DataW.trod_lt m _ _ _ hm
  obtain ⟨fuel0, hf0⟩ := h0
  obtain ⟨X0, ⟨A0, c0, A1, c1, e0, hx00, hx01, hx02, hx03⟩, ok0⟩ := Open.open41 hf0
  obtain rfl : cs0 = #[.int .i64 X0.f0, .slice A0 X0.f1.f0.length c0, .slice A1 X0.f1.f1.length c1, .int .u32 X0.f2.f0, .int .u32 X0.f2.f1, .bool X0.f2.f2, .int .u8 X0.f3.f0, .bool X0.f3.f1] := by
    exact Array.toList_inj.1 e0
  obtain ⟨fuel1, hf1⟩ := h1
  obtain ⟨X1, ⟨B0, b0, B1, b1, e1, hx10, hx11, hx12, hx13⟩, ok1⟩ := Open.open41 hf1
  obtain rfl : cs1 = #[.int .i64 X1.f0, .slice B0 X1.f1.f0.length b0, .slice B1 X1.f1.f1.length b1, .int .u32 X1.f2.f0, .int .u32 X1.f2.f1, .bool X1.f2.f2, .int .u8 X1.f3.f0, .bool X1.f3.f1] := by
    exact Array.toList_inj.1 e1
  obtain ⟨fuel2, hf2⟩ := h2
  obtain ⟨X2, ⟨D0, d0, D1, d1, e2, hx20, hx21, hx22, hx23⟩, ok2⟩ := Open.open41 hf2
  obtain rfl : cs2 = #[.int .i64 X2.f0, .slice D0 X2.f1.f0.length d0, .slice D1 X2.f1.f1.length d1, .int .u32 X2.f2.f0, .int .u32 X2.f2.f1, .bool X2.f2.f2, .int .u8 X2.f3.f0, .bool X2.f3.f1] := by
    exact Array.toList_inj.1 e2
  clear hA0 hval0 hsz0
  refine (Link.keeps_walk W X0 X1 X2 A0 A1 B0 B1 D0 D1 c0 c1 b0 b1 d0 d1 hx00 hx01 hx02 hx03 hx10 hx11 hx12 hx13 hx20 hx21 hx22 hx23 (wf32 ok1.2.1) (wf32 ok2.2.1)).mono fun e W' ⟨he, bel⟩ => ?_
  subst he
  exact ⟨_, rfl, _, _, _, [], _, [], hW', trodAll_mk1 (shut_bool Try.underlying4 _), (trodAll_cons_mk (Below.trod laidOut (by kernel_rfl) (of_decide_eq_true (by kernel_rfl)) k0 bel lt0) (trodAll_cons_mk (Below.trod laidOut (by kernel_rfl) (of_decide_eq_true (by kernel_rfl)) k1 bel lt1) (trodAll_cons_mk (Below.trod laidOut (by kernel_rfl) (of_decide_eq_true (by kernel_rfl)) k2 bel lt2) trodAll_mk0))), rfl, bel.frame _, fun h => by cases h⟩
theorem over : Rows.linkKeepsRow.holds Try.pinned (OpenSpec.ofChange Rows.linkKeepsSpec) :=
  OpenClaim.holds_of_wide 4 Try.f4 rfl rfl rfl rfl rfl rfl rfl ⟨rfl, rfl, rfl, rfl, rfl⟩ rfl rfl rfl rfl rfl (by kernel_rfl) Try.func4 (by kernel_rfl)
    (of_decide_eq_true (by kernel_rfl)) (by unfold Func.isWrapper; first | (rw [if_pos (by decide +kernel)]; kernel_rfl) | (rw [if_neg (by decide +kernel)]; exact ⟨rfl, rfl⟩))
    (fun os started H enc _ => lifted os started H enc)
theorem proved : Rows.LinkKeepsSaid := over
#print axioms proved
end Go.Proofs.Ytkpjdkmggbelfaa.linkKeeps
namespace Go.Proofs.Ytkpjdkmggbelfaa
/-- The row, under a short name, for the claim. -/
theorem linkKeeps_holds : Rows.LinkKeepsSaid := linkKeeps.proved
end Go.Proofs.Ytkpjdkmggbelfaa
