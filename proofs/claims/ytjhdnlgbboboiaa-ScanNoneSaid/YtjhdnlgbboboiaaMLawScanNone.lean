/- The walk of ScanNone: it returns true. -/
import Derived.Test.YtjhdnlgbboboiaaMScanE
import Derived.Test.YtjhdnlgbboboiaaRows
import Derived.Test.YtjhdnlgbboboiaaScanOpn
import Derived.WalkKit
import Derived.ProofKit
import Derived.OpenShut
import Derived.ShutString
import Derived.ChangeOld
import Derived.Below
import Derived.SizedLaws
namespace Go.Proofs.Ytjhdnlgbboboiaa.Scan
open Go.Proofs.Ytjhdnlgbboboiaa.Leb Go.Proofs.Ytjhdnlgbboboiaa.Mem Go.RowKit Go.Proofs.YtjhdnlgbboboiaaW.PrintWords Go.Proofs.YtjhdnlgbboboiaaW.PrintLast Go.Proofs.YtjhdnlgbboboiaaW.PrintMore Go.Proofs.Ytjhdnlgbboboiaa.Base
set_option linter.unusedVariables false
set_option linter.unusedSimpArgs false
theorem rdr_none (W : World) (e : Int) : Rdr (W.alloc (.cells #[.slice none 0 0, .int .i64 0, .int .i64 e] 57)) W.heap.size none 0 [] 0 e :=
  ⟨heap_alloc_new W _, fun W' _ => Kd.C_nil _ W', Nat.le_refl _, Int.le_refl _, Int.le_refl _, fun x hx => by simp at hx, by decide⟩
theorem cur_none (W : World) : Cur (W.alloc (.cells #[.slice none 0 0, .int .i64 0, .int .i64 0] 68)) W.heap.size none 0 [] 0 0 :=
  ⟨heap_alloc_new W _, fun W' _ => Kd.C_nil _ W', Nat.le_refl _, Int.le_refl _, Int.le_refl _, fun x hx => by simp at hx, by decide⟩
/-- A reader is laid beside a cursor. -/
theorem Cur.beside {W : World} {g c : Nat} {A : Option Addr} {l : List Int} {a e : Int} (h : Cur W g A c l a e) (er : Int) : Both (W.alloc (.cells #[.slice none 0 0, .int .i64 0, .int .i64 er] 57)) g W.heap.size A c l a e none 0 [] 0 er := by
  have hb := below_alloc (Below.refl W.heap.size W) (.cells #[.slice none 0 0, .int .i64 0, .int .i64 er] 57)
  have h1 := h.below hb
  have r1 := rdr_none W er
  have hlt := h.lt
  refine ⟨by omega, h1.box, r1.box, ?_, fun W' _ => Kd.C_nil _ W', h1.cap, r1.cap, h1.lo, h1.hi, r1.lo, r1.hi, h1.ok, r1.ok, h1.sm, by decide⟩
  exact Kd.F_mono (Kd.F_step (Foot.bound h.bytes) fun k hk hlt => hb.block k hlt) fun k hk => ⟨hk.1, by have := hk.2; omega⟩
theorem below_grown2 {w w1 w2 : World} {B g r : Nat} (h : Below B w w1) (hg : Grown2 w1 w2 g r) (hB : B ≤ g) (hr : B ≤ r) (hs : B ≤ w1.heap.size) : Below B w w2 :=
  ⟨hg.os.trans h.os, hg.tape.trans h.tape, hg.output.trans h.output, Nat.le_trans h.size hg.size, fun i hi => (hg.block i (by omega) (by omega) (by omega)).trans (h.block i hi)⟩
set_option maxRecDepth 100000 in
set_option maxHeartbeats 1000000 in
theorem ScanNone_walk (w : World) (k n : Int) : Calls Try.prog 12 #[.agg #[.int .i64 k, .int .i64 n]] w fun e w' => e = .returned (.bool true) ∧ Below w.heap.size w w' := by
  have AW := Aside0.mk awake_calls
  have RN := Aside0.mk (fun (W : World) => read_nil (rdr_none W 1) (by decide) (by decide) k n)
  have RB := Aside0.mk (fun (W : World) (g : Nat) (h : Cur W g none 0 [] 0 0) => read_calls (h.beside 0) k n)
  go_enter Try.func12, Try.ntmps12
  go_wp2_with (first
    | (go_at_call 32; refine (AW.out _).mono ?_; rintro e1 w1 ⟨rfl, hb⟩
       have q1 := (hb.block _ (blk_lt (heap_alloc_new w (.cells #[.int .i64 k, .int .i64 n] 59)))).trans (heap_alloc_new w (.cells #[.int .i64 k, .int .i64 n] 59))
       have Q1 := Aside0.mk q1
       have q2 := (heap_alloc_old (.cells #[.slice none 0 0, .int .i64 0, .int .i64 1] 57) (blk_lt q1)).trans q1
       have Q2 := Aside0.mk q2
       have y0 := (blk_cell q2 0).trans rfl
       have y1 := (blk_cell q2 1).trans rfl
       have SZ := Aside0.mk (blk_lt q1)
       have hb0 := below_alloc (Below.refl w.heap.size w) (.cells #[.int .i64 k, .int .i64 n] 59)
       have hb1 := below_then hb0 (by rw [World.size_alloc]; omega) hb
       have HB1 := Aside0.mk (hb1.alloc hb1.size (.cells #[.slice none 0 0, .int .i64 0, .int .i64 1] 57))
       have SZ0 := Aside0.mk hb1.size
       have RN1 := Aside0.mk (RN.out w1)
       clear hb q1 q2 hb0 hb1)
    | (go_at_call 38; refine (Fail_nil _ _).mono ?_; rintro e1 w2 ⟨rfl, rfl⟩)
    | (go_at_call 34; refine RB1.out.mono ?_; rintro e1 w5 ⟨bv, rfl, hs, hg, hc⟩
       have hbv := hs ⟨trivial, trivial, trivial⟩
       subst hbv
       have h0 : (opM k n [] 0 0).1 = 0 := by have := hc.loC; have := hc.hiC; simp only [List.length_nil] at this; omega
       have CC := At_calls hc.cur
       rw [h0] at CC
       have AC := Aside0.mk CC
       have HB5 := Aside0.mk (below_grown2 HB3.out hg SZ3.out (by have := SZ3.out; omega) HB3.out.size)
       clear hs hg hc h0 CC)
    | (go_at_call 34; refine RN1.out.mono ?_; rintro e1 w3 ⟨rfl, hg, hc⟩
       have q3 := (hg.block _ (blk_lt Q2.out) (fun e => by have := Option.some.inj e; have := SZ.out; omega)).trans Q2.out
       have q4 := (heap_alloc_old (.cells #[.slice none 0 0, .int .i64 0, .int .i64 0] 57) (blk_lt ((heap_alloc_old (.cells #[.slice none 0 0, .int .i64 0, .int .i64 0] 68) (blk_lt q3)).trans q3))).trans ((heap_alloc_old (.cells #[.slice none 0 0, .int .i64 0, .int .i64 0] 68) (blk_lt q3)).trans q3)
       have z0 := (blk_cell q4 0).trans rfl
       have z1 := (blk_cell q4 1).trans rfl
       have rb := RB.out (w3.alloc (.cells #[.slice none 0 0, .int .i64 0, .int .i64 0] 68)) w3.heap.size (cur_none w3)
       rw [World.size_alloc] at rb
       have RB1 := Aside0.mk rb
       have hb3 := below_grown HB1.out hg SZ0.out HB1.out.size
       have HB3 := Aside0.mk ((hb3.alloc hb3.size (.cells #[.slice none 0 0, .int .i64 0, .int .i64 0] 68)).alloc (Nat.le_trans hb3.size (by rw [World.size_alloc]; omega)) (.cells #[.slice none 0 0, .int .i64 0, .int .i64 0] 57))
       have SZ3 := Aside0.mk hb3.size
       clear hg hc q3 q4 rb hb3)
    | (go_at_call 35; refine AC.out.mono ?_; rintro e1 w4 ⟨rfl, rfl⟩)
    | (go_at_call 35; refine (At_nil _).mono ?_; rintro e1 w4 ⟨rfl, rfl⟩)
    | (go_at_call 36; refine (Left_nil _).mono ?_; rintro e1 w4 ⟨rfl, rfl⟩)
    | (go_at_call 37; refine (Err_nil _).mono ?_; rintro e1 w4 ⟨rfl, rfl⟩)
    | fail)
  go_ret
  exact ⟨rfl, HB5.out⟩
end Go.Proofs.Ytjhdnlgbboboiaa.Scan

/- By a cursor that is none nothing is read: the row, for every input. -/
namespace Go.Proofs.Ytjhdnlgbboboiaa.scanNone
open Go.ChangeShapes Go.WideShapes Go.ChangeAt Go.RowKit
set_option linter.unusedVariables false
theorem own : ownKnob Try.prog.godebug = none := by kernel_rfl
theorem laidOut : laidOutB Try.prog = true := by kernel_rfl
set_option maxRecDepth 100000 in
theorem lifted (os : Os) (started : os.Started) (H : Type) (enc : TypeId × Value → H) :
    ReturnsInHanded {} Try.checked os 12 .any (Rows.scanNoneSpec.pre6 enc Try.prog Try.f12 Rows.scanNoneRow.domain false) (Rows.scanNoneSpec.post enc Try.prog Try.f12 false true false false) := by
  refine returnsInHanded_of_change_sized (C := Try.checked) own started (by kernel_rfl) Try.func12
    (ChangeSpec.witness6 (enc := enc) (C := Try.checked) false ⟨#[], #[.agg #[.int .i64 0, .int .i64 0]], []⟩ 8 (by kernel_rfl) (by kernel_rfl) (by kernel_rfl) (by kernel_rfl)) ?_
  intro W base args ds gs before hval0 hW hcnd hsz0 _
  have hval : ∀ (j : Nat) t v, Try.f12.params[j]? = some t → args[j]? = some v → Value.okWide Try.prog W .any base t v := hval0
  have hW' := hW
  obtain ⟨p, q, hA0, hV, rfl, hfz, hnd⟩ := hW
  have hA : DataW.TrodAll enc Try.prog W 0 (fun _ => true) true Try.f12.params.toList args.toList ds p := hA0
  rw [Try.params12] at hA hval
  obtain ⟨v0, vs0, d0, ds0, p0, q0, hargs, rfl, rfl, h0, r0⟩ := trodAll_cons hA
  obtain ⟨rfl, rfl, rfl⟩ := trodAll_nil r0
  obtain rfl : args = #[v0] := by cases args; simp_all
  obtain ⟨rfl, rfl⟩ := trodVars_none hV
  obtain ⟨cs0, rfl, hs0⟩ := okWide_struct Try.underlying59 (hval 0 59 v0 rfl rfl)
  have k0 := h0
  have lt0 : ∀ x ∈ p0, x.block < W.heap.size := by obtain ⟨m, hm⟩ := k0; exact DataW.trod_lt m _ _ _ hm
  obtain ⟨fuel0, hf0⟩ := h0
  obtain ⟨X0, hk0, ok0⟩ := (ScanOpn.open59 fuel0).2 _ _ hf0
  obtain rfl : cs0 = #[.int .i64 X0.f0, .int .i64 X0.f1] := Array.toList_inj.1 (ScanOpn.k59_open hk0)
  clear hA0 hval0 hsz0
  refine (Scan.ScanNone_walk W X0.f0 X0.f1).mono fun e W' ⟨he, bel⟩ => ?_
  subst he
  exact ⟨_, rfl, _, _, _, [], _, [], hW', trodAll_mk1 (shut_bool Try.underlying4 _), (trodAll_cons_mk (Below.trod laidOut (by kernel_rfl) (of_decide_eq_true (by kernel_rfl)) k0 bel lt0) trodAll_mk0), rfl, bel.frame _, fun h => by cases h⟩
theorem over : Rows.scanNoneRow.holds Try.pinned (OpenSpec.ofChange Rows.scanNoneSpec) :=
  OpenClaim.holds_of_wide 12 Try.f12 rfl rfl rfl rfl rfl rfl rfl ⟨rfl, rfl, rfl, rfl, rfl⟩ rfl rfl rfl rfl rfl (by kernel_rfl) Try.func12 (by kernel_rfl)
    (of_decide_eq_true (by kernel_rfl)) (by unfold Func.isWrapper; first | (rw [if_pos (by decide +kernel)]; kernel_rfl) | (rw [if_neg (by decide +kernel)]; exact ⟨rfl, rfl⟩))
    (fun os started H enc _ => lifted os started H enc)
theorem proved : Rows.ScanNoneSaid := over
#print axioms proved
end Go.Proofs.Ytjhdnlgbboboiaa.scanNone
namespace Go.Proofs.Ytjhdnlgbboboiaa
/-- The row, under a short name, for the claim. -/
theorem scanNone_holds : Rows.ScanNoneSaid := scanNone.proved
end Go.Proofs.Ytjhdnlgbboboiaa
