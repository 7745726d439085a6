/- Any answer fits any type just if the document says so; what is told may be written over: the row, for every input. -/
import Derived.Test.YtkpjdkmggbelfaaRows
import Derived.Test.YtkpjdkmggbelfaaHostFits
import Derived.Test.YtkpjdkmggbelfaaHostOpnW
import Derived.WalkKit
import Derived.ProofKit
import Derived.OpenShut
import Derived.ShutString
import Derived.ChangeOld
import Derived.Below
import Derived.SizedLaws
namespace Go.Proofs.Ytkpjdkmggbelfaa.hostFits
open Go.ChangeShapes Go.WideShapes Go.ChangeAt Go.RowKit
set_option linter.unusedVariables false
theorem own : ownKnob Try.prog.godebug = none := by kernel_rfl
theorem laidOut : laidOutB Try.prog = true := by kernel_rfl
set_option maxRecDepth 100000 in
theorem lifted (os : Os) (started : os.Started) (H : Type) (enc : TypeId × Value → H) :
    ReturnsInHanded {} Try.checked os 8 .any (Rows.hostFitsSpec.pre6 enc Try.prog Try.f8 Rows.hostFitsRow.domain false) (Rows.hostFitsSpec.post enc Try.prog Try.f8 false true false false) := by
  refine returnsInHanded_of_change_sized (C := Try.checked) own started (by kernel_rfl) Try.func8
    (ChangeSpec.witness6 (enc := enc) (C := Try.checked) false ⟨#[], #[.agg #[.slice none 0 0, .slice none 0 0], .agg #[.bool false, .slice none 0 0], .agg #[.slice none 0 0, .slice none 0 0]], []⟩ 8 (by kernel_rfl) (by kernel_rfl) (by kernel_rfl) (by kernel_rfl)) ?_
  intro W base args ds gs before hval0 hW hcnd hsz0 _
  have hval : ∀ (j : Nat) t v, Try.f8.params[j]? = some t → args[j]? = some v → Value.okWide Try.prog W .any base t v := hval0
  have hW' := hW
  obtain ⟨p, q, hA0, hV, rfl, hfz, hnd⟩ := hW
  have hA : DataW.TrodAll enc Try.prog W 0 (fun _ => true) true Try.f8.params.toList args.toList ds p := hA0
  rw [Try.params8] at hA hval
  obtain ⟨v0, vs0, d0, ds0, p0, q0, hargs, rfl, rfl, h0, r0⟩ := trodAll_cons hA
  obtain ⟨v1, vs1, d1, ds1, p1, q1, rfl, rfl, rfl, h1, r1⟩ := trodAll_cons r0
  obtain ⟨v2, vs2, d2, ds2, p2, q2, rfl, rfl, rfl, h2, r2⟩ := trodAll_cons r1
  obtain ⟨rfl, rfl, rfl⟩ := trodAll_nil r2
  obtain rfl : args = #[v0, v1, v2] := by cases args; simp_all
  obtain ⟨rfl, rfl⟩ := trodVars_none hV
  obtain ⟨cs0, rfl, hs0⟩ := okWide_struct Try.underlying34 (hval 0 34 v0 rfl rfl)
  obtain ⟨cs1, rfl, hs1⟩ := okWide_struct Try.underlying109 (hval 1 109 v1 rfl rfl)
  obtain ⟨cs2, rfl, hs2⟩ := okWide_struct Try.underlying77 (hval 2 77 v2 rfl rfl)
  have k0 := h0
  have lt0 : ∀ x ∈ p0, x.block < W.heap.size := by obtain ⟨m, hm⟩ := k0; exact DataW.trod_lt m _ _ _ hm
  have k1 := h1
  have lt1 : ∀ x ∈ p1, x.block < W.heap.size := by obtain ⟨m, hm⟩ := k1; exact DataW.trod_lt m _ _ _ hm
  have k2 := h2
  have lt2 : ∀ x ∈ p2, x.block < W.heap.size := by obtain ⟨m, hm⟩ := k2; exact DataW.trod_lt m _ _ _ hm
  obtain ⟨fuel0, hf0⟩ := h0
  obtain ⟨fuel1, hf1⟩ := h1
  obtain ⟨fuel2, hf2⟩ := h2
  obtain ⟨X0, hk0, ok0⟩ := (HostOpn.open34 fuel0).2 _ _ hf0
  obtain ⟨X1, hk1, ok1⟩ := (HostOpn.open109 fuel1).2 _ _ hf1
  obtain ⟨X2, hk2, ok2, wk2⟩ := (HostOpn.openZ77 (HostOpn.weightM H) fuel2).2 _ _ hf2
  have hsz : (DataW.weightsEach Try.prog (Try.f8.params.toList ++ Rows.hostFitsSpec.plain.varTypes Try.prog) ([d0, d1, d2] ++ [])).all (· ≤ reachBytes) = true := hsz0
  have big := HostOpn.fit77 (wk2 (fun n hn => by
    have := List.all_eq_true.1 hsz _ (DataW.weights_mem_each (j := 2) (t := 77) (d := d2) rfl rfl n hn)
    simpa using this))
  obtain ⟨Ap, cp, Ar, cr, e0, hpc, hp, hrc, hr⟩ := HostOpn.k34_open hk0
  obtain ⟨Av, cv, e1, hvc, hv⟩ := PHostPlays.k109_open hk1
  obtain ⟨A1, c1, A2, c2, e2, h1c, g1, h2c, g2⟩ := PHostPlays.k77_open hk2
  obtain rfl : cs0 = #[.slice Ap X0.f0.length cp, .slice Ar X0.f1.length cr] := Array.toList_inj.1 e0
  obtain rfl : cs1 = #[.bool X1.f0, .slice Av X1.f1.length cv] := Array.toList_inj.1 e1
  obtain rfl : cs2 = #[.slice A1 X2.f0.length c1, .slice A2 X2.f1.length c2] := Array.toList_inj.1 e2
  clear hA0 hval0 hsz0
  refine (Host.fits_walk W Ap cp X0.f0 Ar cr X0.f1 X1.f0 Av cv X1.f1 A1 c1 X2.f0 A2 c2 X2.f1 hp hpc hr hrc hv hvc (fun x hx => (ok1.2.2 x hx).1) g1 h1c g2 h2c big.1 big.2.1 big.2.2).mono fun e W' ⟨he, bel⟩ => ?_
  subst he
  exact ⟨_, rfl, _, _, _, [], _, [], hW', trodAll_mk1 (shut_bool Try.underlying4 _), (trodAll_cons_mk (Below.trod laidOut (by kernel_rfl) (of_decide_eq_true (by kernel_rfl)) k0 bel lt0) (trodAll_cons_mk (Below.trod laidOut (by kernel_rfl) (of_decide_eq_true (by kernel_rfl)) k1 bel lt1) (trodAll_cons_mk (Below.trod laidOut (by kernel_rfl) (of_decide_eq_true (by kernel_rfl)) k2 bel lt2) trodAll_mk0))), rfl, bel.frame _, fun h => by cases h⟩
theorem over : Rows.hostFitsRow.holds Try.pinned (OpenSpec.ofChange Rows.hostFitsSpec) :=
  OpenClaim.holds_of_wide 8 Try.f8 rfl rfl rfl rfl rfl rfl rfl ⟨rfl, rfl, rfl, rfl, rfl⟩ rfl rfl rfl rfl rfl (by kernel_rfl) Try.func8 (by kernel_rfl)
    (of_decide_eq_true (by kernel_rfl)) (by unfold Func.isWrapper; first | (rw [if_pos (by decide +kernel)]; kernel_rfl) | (rw [if_neg (by decide +kernel)]; exact ⟨rfl, rfl⟩))
    (fun os started H enc _ => lifted os started H enc)
theorem proved : Rows.HostFitsSaid := over
#print axioms proved
end Go.Proofs.Ytkpjdkmggbelfaa.hostFits
namespace Go.Proofs.Ytkpjdkmggbelfaa
/-- The row, under a short name, for the claim. -/
theorem hostFits_holds : Rows.HostFitsSaid := hostFits.proved
end Go.Proofs.Ytkpjdkmggbelfaa
