/- round.Narrow with a NaN; cast.Demote, cast.Promote; shape.IsNan. -/
import Derived.Test.YticonaahlplbjaaGreatDoorTnFl
namespace Go.Proofs.YticonaahlplbjaaGreatDoor.Tn
open Go.RowKit Go.Proofs.YticonaahlplbjaaGreatDoor.PTopNans Go.Proofs.YticonaahlplbjaaGreatDoorW.PrintWords Go.Proofs.YticonaahlplbjaaGreatDoorW.PrintLast Go.Proofs.YticonaahlplbjaaGreatDoorW.PrintMore
set_option linter.unusedVariables false
set_option linter.unusedSimpArgs false
set_option maxRecDepth 100000 in
set_option maxHeartbeats 4000000 in
theorem NarrowNan {wd : Int} (C : Fl wd) (neg : Bool) (ex s : Int) (w : World) : Calls Tryz.prog 104 #[.int .i64 wd, .agg #[.bool neg, .int .i64 3, .int .i64 ex, .int .u64 s]] w fun e w' => e = .returned (.int .u64 (cN wd)) ∧ Below w.heap.size w w' := by
  have q0 := heap_alloc_new w (.cells #[.bool neg, .int .i64 3, .int .i64 ex, .int .u64 s] 46)
  have HB := Aside0.mk (below_alloc (Below.refl w.heap.size w) (.cells #[.bool neg, .int .i64 3, .int .i64 ex, .int .u64 s] 46))
  have c1 := (blk_cell q0 1).trans rfl
  have CN := Aside0.mk (fun W => C.N W)
  obtain ⟨n, hn⟩ : ∃ n, n = cN wd := ⟨_, rfl⟩
  rw [← hn] at CN ⊢
  clear hn q0 C
  all_goals
    go_enter Tryz.func104, Tryz.ntmps104
    go_wp2_with (first
      | (go_at_call 7; refine (CN.out _).mono ?_
         rintro e w1 ⟨rfl, hb⟩
         have H1 := Aside0.mk (below_then HB.out HB.out.size hb)
         clear hb)
      | fail)
    refine bodyPost_ret (v := .int .u64 n) (by simp [results, Tryz.results104, go_sem]) rfl ?_
    exact ⟨rfl, H1.out⟩
theorem NarrowA {wd : Int} (C : Fl wd) (neg : Bool) (k ex s : Int) (w : World) (hk : Kd4 k) (us : u64 s) (ix : i64r ex) : Calls Tryz.prog 104 #[.int .i64 wd, .agg #[.bool neg, .int .i64 k, .int .i64 ex, .int .u64 s]] w (Ans w wd (k = 3)) := by
  by_cases h : k = 3
  · subst h
    refine (NarrowNan C neg ex s w).mono ?_
    rintro e w' ⟨rfl, hb⟩
    exact ⟨_, rfl, C.cn, fun _ => rfl, hb⟩
  · exact (C.R neg k ex s w hk us ix).mono fun e w' g => g.ans h
set_option maxRecDepth 100000 in
set_option maxHeartbeats 4000000 in
theorem Demote_calls (a : Int) (w : World) (ua : u64 a) : Calls Tryz.prog 61 #[.int .u64 a] w (Ans w 32 (isN 64 a)) := by
  have UA := Aside0.mk ua
  clear ua
  all_goals
    go_enter Tryz.func61, Tryz.ntmps61
    go_wp2_with (first
      | (go_at_call 23; refine (fl64.O a _ UA.out).mono ?_
         rintro e w1 ⟨n1, k1, x1, s1, rfl, p1, hb⟩
         have P1 := Aside0.mk p1
         have H1 := Aside0.mk hb
         clear p1 hb)
      | (go_at_call 104; refine (NarrowA fl32 n1 k1 x1 s1 _ (parts_rng P1.out).1 (parts_rng P1.out).2.2 (parts_rng P1.out).2.1).mono ?_
         rintro e w2 ⟨n, rfl, g, c, hb⟩
         have R := Aside0.mk (And.intro g (And.intro c (below_then H1.out H1.out.size hb)))
         clear g c hb)
      | fail)
    refine bodyPost_ret (v := .int .u64 n) (by simp [results, Tryz.results61, go_sem]) rfl ?_
    exact ⟨n, rfl, R.out.1, fun h => R.out.2.1 (P1.out.nan.2 h), R.out.2.2⟩
set_option maxRecDepth 100000 in
set_option maxHeartbeats 4000000 in
theorem Promote_calls (a : Int) (w : World) (ua : u64 a) : Calls Tryz.prog 62 #[.int .u64 a] w (Ans w 64 (isN 32 a)) := by
  have UA := Aside0.mk ua
  clear ua
  all_goals
    go_enter Tryz.func62, Tryz.ntmps62
    go_wp2_with (first
      | (go_at_call 23; refine (fl32.O a _ UA.out).mono ?_
         rintro e w1 ⟨n1, k1, x1, s1, rfl, p1, hb⟩
         have P1 := Aside0.mk p1
         have H1 := Aside0.mk hb
         clear p1 hb)
      | (go_at_call 104; refine (NarrowA fl64 n1 k1 x1 s1 _ (parts_rng P1.out).1 (parts_rng P1.out).2.2 (parts_rng P1.out).2.1).mono ?_
         rintro e w2 ⟨n, rfl, g, c, hb⟩
         have R := Aside0.mk (And.intro g (And.intro c (below_then H1.out H1.out.size hb)))
         clear g c hb)
      | fail)
    refine bodyPost_ret (v := .int .u64 n) (by simp [results, Tryz.results62, go_sem]) rfl ?_
    exact ⟨n, rfl, R.out.1, fun h => R.out.2.1 (P1.out.nan.2 h), R.out.2.2⟩
theorem cut_calls {wd : Int} (hw : wd = 32 ∨ wd = 64) (a : Int) (w : World) (ua : u64 a) : Calls Tryz.prog 8 #[.int .i64 wd, .int .u64 a] w fun e w' => ∃ r, e = .returned (.int .u64 r) ∧ u64 r ∧ (isN wd r ↔ isN wd a) ∧ Below w.heap.size w w' := by
  rcases hw with rfl | rfl
  · have ba : bits .and .u64 a 4294967295 = a % 4294967296 := bits_mask .u64 64 (by decide) (fun n h0 h1 => by simp only [IntKind.wrap_u64]; omega) 32 (by decide) _ ua.1 ua.2
    refine (shape_Cut.calls 32 a (a % 4294967296) w (by unfold shape_Cut.f; rw [if_pos rfl, ba])).mono ?_
    rintro e w' ⟨rfl, hd⟩
    exact ⟨_, rfl, by unfold u64; omega, by unfold isN; rw [if_pos rfl, if_pos rfl]; omega, hd.below⟩
  · refine (shape_Cut.calls 64 a a w (by unfold shape_Cut.f; rw [if_neg (by decide), if_pos rfl])).mono ?_
    rintro e w' ⟨rfl, hd⟩
    exact ⟨_, rfl, ua, Iff.rfl, hd.below⟩
theorem field46 (n : Bool) (k x s : Int) (W : World) : (Instr.field 46 (.agg #[.bool n, .int .i64 k, .int .i64 x, .int .u64 s]) 1).run Tryz.prog W = .ok (.int .i64 k) W := by
  simp [Instr.field, Tryz.underlying46, go_sem]
  try rfl
set_option maxRecDepth 100000 in
set_option maxHeartbeats 4000000 in
theorem IsNan_calls {wd : Int} (C : Fl wd) (a : Int) (w : World) (ua : u64 a) : Calls Tryz.prog 6 #[.int .i64 wd, .int .u64 a] w fun e w' => ∃ b, e = .returned (.bool b) ∧ (b = true ↔ isN wd a) ∧ Below w.heap.size w w' := by
  have OO := Aside0.mk (fun W => C.O a W ua)
  have FLD := Aside0.mk field46
  clear ua
  all_goals
    go_enter Tryz.func6, Tryz.ntmps6
    go_wp2_with (first
      | (go_at_call 23; refine (OO.out _).mono ?_
         rintro e w1 ⟨n1, k1, x1, s1, rfl, p1, hb⟩
         have P1 := Aside0.mk p1
         have H1 := Aside0.mk hb
         have fl := FLD.out n1 k1 x1 s1
         clear p1 hb)
      | fail)
    refine bodyPost_ret (v := .bool (k1 == 3)) (by simp [results, Tryz.results6, go_sem]) rfl ?_
    exact ⟨_, rfl, by rw [beq_iff_eq]; exact P1.out.nan, by first | exact H1.out | exact H1.out.alloc H1.out.size _⟩
end Go.Proofs.YticonaahlplbjaaGreatDoor.Tn
