/- quotient.parts, quotient.Div. -/
import Derived.Test.YticonaahlplbjaaGreatDoorTnVal
import Derived.Test.YticonaahlplbjaaGreatDoorTnOps
namespace Go.Proofs.YticonaahlplbjaaGreatDoor.Tn
open Go.RowKit Go.Proofs.YticonaahlplbjaaGreatDoor.PTopNans Go.Proofs.YticonaahlplbjaaGreatDoorW.PrintWords Go.Proofs.YticonaahlplbjaaGreatDoorW.PrintLast Go.Proofs.YticonaahlplbjaaGreatDoorW.PrintMore
set_option linter.unusedVariables false
set_option linter.unusedSimpArgs false
set_option maxRecDepth 100000 in
set_option maxHeartbeats 4000000 in
theorem quo_parts_00 {wd : Int} (C : Fl wd) 
    (n1 n2 : Bool) (x1 x2 s1 s2 : Int) (w : World) (u1 : u64 s1) (u2 : u64 s2) (i1 : i64r x1) (i2 : i64r x2) : Calls Tryz.prog 99 #[.int .i64 wd, .agg #[.bool n1, .int .i64 0, .int .i64 x1, .int .u64 s1], .agg #[.bool n2, .int .i64 0, .int .i64 x2, .int .u64 s2]] w (Ans w wd ((0 : Int) = 3 ∨ (0 : Int) = 3)) := by
  have HB := Aside0.mk ((below_alloc (Below.refl w.heap.size w) (.cells #[.bool n1, .int .i64 0, .int .i64 x1, .int .u64 s1] 46)).alloc (by rw [World.size_alloc]; omega) (.cells #[.bool n2, .int .i64 0, .int .i64 x2, .int .u64 s2] 46))
  have C := Aside0.mk C
  have UU := Aside0.mk (And.intro u1 (And.intro u2 (And.intro i1 i2)))
  clear u1 u2 i1 i2
  all_goals
    go_enter Tryz.func99, Tryz.ntmps99
    go_wp2_with (first
      | (go_at_call 7; refine (C.out.N _).mono ?_
         rintro e w1 ⟨rfl, hb⟩
         obtain ⟨n, hn⟩ : ∃ n, n = cN wd := ⟨_, rfl⟩
         have GN := Aside0.mk (show Good wd n by rw [hn]; exact C.out.cn)
         have NN := Aside0.mk hn
         rw [← hn]
         clear hn
         have H1 := Aside0.mk (below_then HB.out HB.out.size hb)
         clear hb)
      | fail)
    all_goals
      refine bodyPost_ret (v := .int .u64 n) (by simp [results, Tryz.results99, go_sem]) rfl ?_
      exact ⟨n, rfl, GN.out, fun h => absurd h (by decide), H1.out⟩
set_option maxRecDepth 100000 in
set_option maxHeartbeats 4000000 in
theorem quo_parts_01 {wd : Int} (C : Fl wd) 
    (n1 n2 : Bool) (x1 x2 s1 s2 : Int) (w : World) (u1 : u64 s1) (u2 : u64 s2) (i1 : i64r x1) (i2 : i64r x2) : Calls Tryz.prog 99 #[.int .i64 wd, .agg #[.bool n1, .int .i64 0, .int .i64 x1, .int .u64 s1], .agg #[.bool n2, .int .i64 1, .int .i64 x2, .int .u64 s2]] w (Ans w wd ((0 : Int) = 3 ∨ (1 : Int) = 3)) := by
  have HB := Aside0.mk ((below_alloc (Below.refl w.heap.size w) (.cells #[.bool n1, .int .i64 0, .int .i64 x1, .int .u64 s1] 46)).alloc (by rw [World.size_alloc]; omega) (.cells #[.bool n2, .int .i64 1, .int .i64 x2, .int .u64 s2] 46))
  have C := Aside0.mk C
  have UU := Aside0.mk (And.intro u1 (And.intro u2 (And.intro i1 i2)))
  clear u1 u2 i1 i2
  all_goals
    go_enter Tryz.func99, Tryz.ntmps99
    go_wp2_with (first
      | (go_at_call 92; refine (C.out.Z _ _).mono ?_
         rintro e w1 ⟨n, rfl, gn, hb⟩
         have GN := Aside0.mk gn
         clear gn
         have H1 := Aside0.mk (below_then HB.out HB.out.size hb)
         clear hb)
      | fail)
    all_goals
      refine bodyPost_ret (v := .int .u64 n) (by simp [results, Tryz.results99, go_sem]) rfl ?_
      exact ⟨n, rfl, GN.out, fun h => absurd h (by decide), H1.out⟩
set_option maxRecDepth 100000 in
set_option maxHeartbeats 4000000 in
theorem quo_parts_02 {wd : Int} (C : Fl wd) 
    (n1 n2 : Bool) (x1 x2 s1 s2 : Int) (w : World) (u1 : u64 s1) (u2 : u64 s2) (i1 : i64r x1) (i2 : i64r x2) : Calls Tryz.prog 99 #[.int .i64 wd, .agg #[.bool n1, .int .i64 0, .int .i64 x1, .int .u64 s1], .agg #[.bool n2, .int .i64 2, .int .i64 x2, .int .u64 s2]] w (Ans w wd ((0 : Int) = 3 ∨ (2 : Int) = 3)) := by
  have HB := Aside0.mk ((below_alloc (Below.refl w.heap.size w) (.cells #[.bool n1, .int .i64 0, .int .i64 x1, .int .u64 s1] 46)).alloc (by rw [World.size_alloc]; omega) (.cells #[.bool n2, .int .i64 2, .int .i64 x2, .int .u64 s2] 46))
  have C := Aside0.mk C
  have UU := Aside0.mk (And.intro u1 (And.intro u2 (And.intro i1 i2)))
  clear u1 u2 i1 i2
  all_goals
    go_enter Tryz.func99, Tryz.ntmps99
    go_wp2_with (first
      | (go_at_call 92; refine (C.out.Z _ _).mono ?_
         rintro e w1 ⟨n, rfl, gn, hb⟩
         have GN := Aside0.mk gn
         clear gn
         have H1 := Aside0.mk (below_then HB.out HB.out.size hb)
         clear hb)
      | fail)
    all_goals
      refine bodyPost_ret (v := .int .u64 n) (by simp [results, Tryz.results99, go_sem]) rfl ?_
      exact ⟨n, rfl, GN.out, fun h => absurd h (by decide), H1.out⟩
set_option maxRecDepth 100000 in
set_option maxHeartbeats 4000000 in
theorem quo_parts_03 {wd : Int} (C : Fl wd) 
    (n1 n2 : Bool) (x1 x2 s1 s2 : Int) (w : World) (u1 : u64 s1) (u2 : u64 s2) (i1 : i64r x1) (i2 : i64r x2) : Calls Tryz.prog 99 #[.int .i64 wd, .agg #[.bool n1, .int .i64 0, .int .i64 x1, .int .u64 s1], .agg #[.bool n2, .int .i64 3, .int .i64 x2, .int .u64 s2]] w (Ans w wd ((0 : Int) = 3 ∨ (3 : Int) = 3)) := by
  have HB := Aside0.mk ((below_alloc (Below.refl w.heap.size w) (.cells #[.bool n1, .int .i64 0, .int .i64 x1, .int .u64 s1] 46)).alloc (by rw [World.size_alloc]; omega) (.cells #[.bool n2, .int .i64 3, .int .i64 x2, .int .u64 s2] 46))
  have C := Aside0.mk C
  have UU := Aside0.mk (And.intro u1 (And.intro u2 (And.intro i1 i2)))
  clear u1 u2 i1 i2
  all_goals
    go_enter Tryz.func99, Tryz.ntmps99
    go_wp2_with (first
      | (go_at_call 7; refine (C.out.N _).mono ?_
         rintro e w1 ⟨rfl, hb⟩
         obtain ⟨n, hn⟩ : ∃ n, n = cN wd := ⟨_, rfl⟩
         have GN := Aside0.mk (show Good wd n by rw [hn]; exact C.out.cn)
         have NN := Aside0.mk hn
         rw [← hn]
         clear hn
         have H1 := Aside0.mk (below_then HB.out HB.out.size hb)
         clear hb)
      | fail)
    all_goals
      refine bodyPost_ret (v := .int .u64 n) (by simp [results, Tryz.results99, go_sem]) rfl ?_
      exact ⟨n, rfl, GN.out, fun _ => NN.out, H1.out⟩
set_option maxRecDepth 100000 in
set_option maxHeartbeats 4000000 in
theorem quo_parts_10 {wd : Int} (C : Fl wd) 
    (n1 n2 : Bool) (x1 x2 s1 s2 : Int) (w : World) (u1 : u64 s1) (u2 : u64 s2) (i1 : i64r x1) (i2 : i64r x2) : Calls Tryz.prog 99 #[.int .i64 wd, .agg #[.bool n1, .int .i64 1, .int .i64 x1, .int .u64 s1], .agg #[.bool n2, .int .i64 0, .int .i64 x2, .int .u64 s2]] w (Ans w wd ((1 : Int) = 3 ∨ (0 : Int) = 3)) := by
  have HB := Aside0.mk ((below_alloc (Below.refl w.heap.size w) (.cells #[.bool n1, .int .i64 1, .int .i64 x1, .int .u64 s1] 46)).alloc (by rw [World.size_alloc]; omega) (.cells #[.bool n2, .int .i64 0, .int .i64 x2, .int .u64 s2] 46))
  have C := Aside0.mk C
  have UU := Aside0.mk (And.intro u1 (And.intro u2 (And.intro i1 i2)))
  clear u1 u2 i1 i2
  all_goals
    go_enter Tryz.func99, Tryz.ntmps99
    go_wp2_with (first
      | (go_at_call 93; refine (C.out.I _ _).mono ?_
         rintro e w1 ⟨n, rfl, gn, hb⟩
         have GN := Aside0.mk gn
         clear gn
         have H1 := Aside0.mk (below_then HB.out HB.out.size hb)
         clear hb)
      | fail)
    all_goals
      refine bodyPost_ret (v := .int .u64 n) (by simp [results, Tryz.results99, go_sem]) rfl ?_
      exact ⟨n, rfl, GN.out, fun h => absurd h (by decide), H1.out⟩
set_option maxRecDepth 100000 in
set_option maxHeartbeats 4000000 in
theorem quo_parts_11 {wd : Int} (C : Fl wd) 
    (n1 n2 : Bool) (x1 x2 s1 s2 : Int) (w : World) (u1 : u64 s1) (u2 : u64 s2) (i1 : i64r x1) (i2 : i64r x2) : Calls Tryz.prog 99 #[.int .i64 wd, .agg #[.bool n1, .int .i64 1, .int .i64 x1, .int .u64 s1], .agg #[.bool n2, .int .i64 1, .int .i64 x2, .int .u64 s2]] w (Ans w wd ((1 : Int) = 3 ∨ (1 : Int) = 3)) := by
  have HB := Aside0.mk ((below_alloc (Below.refl w.heap.size w) (.cells #[.bool n1, .int .i64 1, .int .i64 x1, .int .u64 s1] 46)).alloc (by rw [World.size_alloc]; omega) (.cells #[.bool n2, .int .i64 1, .int .i64 x2, .int .u64 s2] 46))
  have C := Aside0.mk C
  have UU := Aside0.mk (And.intro u1 (And.intro u2 (And.intro i1 i2)))
  clear u1 u2 i1 i2
  all_goals
    go_enter Tryz.func99, Tryz.ntmps99
    go_wp2_with (first
      | (go_at_call 130; refine (value_calls C.out _ _ _ _ _ _ _ _ _ UU.out.1 UU.out.2.1).mono ?_
         rintro e w1 ⟨n, rfl, gn, hb⟩
         have GN := Aside0.mk gn
         clear gn
         have H1 := Aside0.mk (below_then HB.out HB.out.size hb)
         clear hb)
      | fail)
    all_goals
      refine bodyPost_ret (v := .int .u64 n) (by simp [results, Tryz.results99, go_sem]) rfl ?_
      exact ⟨n, rfl, GN.out, fun h => absurd h (by decide), H1.out⟩
set_option maxRecDepth 100000 in
set_option maxHeartbeats 4000000 in
theorem quo_parts_12 {wd : Int} (C : Fl wd) 
    (n1 n2 : Bool) (x1 x2 s1 s2 : Int) (w : World) (u1 : u64 s1) (u2 : u64 s2) (i1 : i64r x1) (i2 : i64r x2) : Calls Tryz.prog 99 #[.int .i64 wd, .agg #[.bool n1, .int .i64 1, .int .i64 x1, .int .u64 s1], .agg #[.bool n2, .int .i64 2, .int .i64 x2, .int .u64 s2]] w (Ans w wd ((1 : Int) = 3 ∨ (2 : Int) = 3)) := by
  have HB := Aside0.mk ((below_alloc (Below.refl w.heap.size w) (.cells #[.bool n1, .int .i64 1, .int .i64 x1, .int .u64 s1] 46)).alloc (by rw [World.size_alloc]; omega) (.cells #[.bool n2, .int .i64 2, .int .i64 x2, .int .u64 s2] 46))
  have C := Aside0.mk C
  have UU := Aside0.mk (And.intro u1 (And.intro u2 (And.intro i1 i2)))
  clear u1 u2 i1 i2
  all_goals
    go_enter Tryz.func99, Tryz.ntmps99
    go_wp2_with (first
      | (go_at_call 92; refine (C.out.Z _ _).mono ?_
         rintro e w1 ⟨n, rfl, gn, hb⟩
         have GN := Aside0.mk gn
         clear gn
         have H1 := Aside0.mk (below_then HB.out HB.out.size hb)
         clear hb)
      | fail)
    all_goals
      refine bodyPost_ret (v := .int .u64 n) (by simp [results, Tryz.results99, go_sem]) rfl ?_
      exact ⟨n, rfl, GN.out, fun h => absurd h (by decide), H1.out⟩
set_option maxRecDepth 100000 in
set_option maxHeartbeats 4000000 in
theorem quo_parts_13 {wd : Int} (C : Fl wd) 
    (n1 n2 : Bool) (x1 x2 s1 s2 : Int) (w : World) (u1 : u64 s1) (u2 : u64 s2) (i1 : i64r x1) (i2 : i64r x2) : Calls Tryz.prog 99 #[.int .i64 wd, .agg #[.bool n1, .int .i64 1, .int .i64 x1, .int .u64 s1], .agg #[.bool n2, .int .i64 3, .int .i64 x2, .int .u64 s2]] w (Ans w wd ((1 : Int) = 3 ∨ (3 : Int) = 3)) := by
  have HB := Aside0.mk ((below_alloc (Below.refl w.heap.size w) (.cells #[.bool n1, .int .i64 1, .int .i64 x1, .int .u64 s1] 46)).alloc (by rw [World.size_alloc]; omega) (.cells #[.bool n2, .int .i64 3, .int .i64 x2, .int .u64 s2] 46))
  have C := Aside0.mk C
  have UU := Aside0.mk (And.intro u1 (And.intro u2 (And.intro i1 i2)))
  clear u1 u2 i1 i2
  all_goals
    go_enter Tryz.func99, Tryz.ntmps99
    go_wp2_with (first
      | (go_at_call 7; refine (C.out.N _).mono ?_
         rintro e w1 ⟨rfl, hb⟩
         obtain ⟨n, hn⟩ : ∃ n, n = cN wd := ⟨_, rfl⟩
         have GN := Aside0.mk (show Good wd n by rw [hn]; exact C.out.cn)
         have NN := Aside0.mk hn
         rw [← hn]
         clear hn
         have H1 := Aside0.mk (below_then HB.out HB.out.size hb)
         clear hb)
      | fail)
    all_goals
      refine bodyPost_ret (v := .int .u64 n) (by simp [results, Tryz.results99, go_sem]) rfl ?_
      exact ⟨n, rfl, GN.out, fun _ => NN.out, H1.out⟩
set_option maxRecDepth 100000 in
set_option maxHeartbeats 4000000 in
theorem quo_parts_20 {wd : Int} (C : Fl wd) 
    (n1 n2 : Bool) (x1 x2 s1 s2 : Int) (w : World) (u1 : u64 s1) (u2 : u64 s2) (i1 : i64r x1) (i2 : i64r x2) : Calls Tryz.prog 99 #[.int .i64 wd, .agg #[.bool n1, .int .i64 2, .int .i64 x1, .int .u64 s1], .agg #[.bool n2, .int .i64 0, .int .i64 x2, .int .u64 s2]] w (Ans w wd ((2 : Int) = 3 ∨ (0 : Int) = 3)) := by
  have HB := Aside0.mk ((below_alloc (Below.refl w.heap.size w) (.cells #[.bool n1, .int .i64 2, .int .i64 x1, .int .u64 s1] 46)).alloc (by rw [World.size_alloc]; omega) (.cells #[.bool n2, .int .i64 0, .int .i64 x2, .int .u64 s2] 46))
  have C := Aside0.mk C
  have UU := Aside0.mk (And.intro u1 (And.intro u2 (And.intro i1 i2)))
  clear u1 u2 i1 i2
  all_goals
    go_enter Tryz.func99, Tryz.ntmps99
    go_wp2_with (first
      | (go_at_call 93; refine (C.out.I _ _).mono ?_
         rintro e w1 ⟨n, rfl, gn, hb⟩
         have GN := Aside0.mk gn
         clear gn
         have H1 := Aside0.mk (below_then HB.out HB.out.size hb)
         clear hb)
      | fail)
    all_goals
      refine bodyPost_ret (v := .int .u64 n) (by simp [results, Tryz.results99, go_sem]) rfl ?_
      exact ⟨n, rfl, GN.out, fun h => absurd h (by decide), H1.out⟩
set_option maxRecDepth 100000 in
set_option maxHeartbeats 4000000 in
theorem quo_parts_21 {wd : Int} (C : Fl wd) 
    (n1 n2 : Bool) (x1 x2 s1 s2 : Int) (w : World) (u1 : u64 s1) (u2 : u64 s2) (i1 : i64r x1) (i2 : i64r x2) : Calls Tryz.prog 99 #[.int .i64 wd, .agg #[.bool n1, .int .i64 2, .int .i64 x1, .int .u64 s1], .agg #[.bool n2, .int .i64 1, .int .i64 x2, .int .u64 s2]] w (Ans w wd ((2 : Int) = 3 ∨ (1 : Int) = 3)) := by
  have HB := Aside0.mk ((below_alloc (Below.refl w.heap.size w) (.cells #[.bool n1, .int .i64 2, .int .i64 x1, .int .u64 s1] 46)).alloc (by rw [World.size_alloc]; omega) (.cells #[.bool n2, .int .i64 1, .int .i64 x2, .int .u64 s2] 46))
  have C := Aside0.mk C
  have UU := Aside0.mk (And.intro u1 (And.intro u2 (And.intro i1 i2)))
  clear u1 u2 i1 i2
  all_goals
    go_enter Tryz.func99, Tryz.ntmps99
    go_wp2_with (first
      | (go_at_call 93; refine (C.out.I _ _).mono ?_
         rintro e w1 ⟨n, rfl, gn, hb⟩
         have GN := Aside0.mk gn
         clear gn
         have H1 := Aside0.mk (below_then HB.out HB.out.size hb)
         clear hb)
      | fail)
    all_goals
      refine bodyPost_ret (v := .int .u64 n) (by simp [results, Tryz.results99, go_sem]) rfl ?_
      exact ⟨n, rfl, GN.out, fun h => absurd h (by decide), H1.out⟩
set_option maxRecDepth 100000 in
set_option maxHeartbeats 4000000 in
theorem quo_parts_22 {wd : Int} (C : Fl wd) 
    (n1 n2 : Bool) (x1 x2 s1 s2 : Int) (w : World) (u1 : u64 s1) (u2 : u64 s2) (i1 : i64r x1) (i2 : i64r x2) : Calls Tryz.prog 99 #[.int .i64 wd, .agg #[.bool n1, .int .i64 2, .int .i64 x1, .int .u64 s1], .agg #[.bool n2, .int .i64 2, .int .i64 x2, .int .u64 s2]] w (Ans w wd ((2 : Int) = 3 ∨ (2 : Int) = 3)) := by
  have HB := Aside0.mk ((below_alloc (Below.refl w.heap.size w) (.cells #[.bool n1, .int .i64 2, .int .i64 x1, .int .u64 s1] 46)).alloc (by rw [World.size_alloc]; omega) (.cells #[.bool n2, .int .i64 2, .int .i64 x2, .int .u64 s2] 46))
  have C := Aside0.mk C
  have UU := Aside0.mk (And.intro u1 (And.intro u2 (And.intro i1 i2)))
  clear u1 u2 i1 i2
  all_goals
    go_enter Tryz.func99, Tryz.ntmps99
    go_wp2_with (first
      | (go_at_call 7; refine (C.out.N _).mono ?_
         rintro e w1 ⟨rfl, hb⟩
         obtain ⟨n, hn⟩ : ∃ n, n = cN wd := ⟨_, rfl⟩
         have GN := Aside0.mk (show Good wd n by rw [hn]; exact C.out.cn)
         have NN := Aside0.mk hn
         rw [← hn]
         clear hn
         have H1 := Aside0.mk (below_then HB.out HB.out.size hb)
         clear hb)
      | fail)
    all_goals
      refine bodyPost_ret (v := .int .u64 n) (by simp [results, Tryz.results99, go_sem]) rfl ?_
      exact ⟨n, rfl, GN.out, fun h => absurd h (by decide), H1.out⟩
set_option maxRecDepth 100000 in
set_option maxHeartbeats 4000000 in
theorem quo_parts_23 {wd : Int} (C : Fl wd) 
    (n1 n2 : Bool) (x1 x2 s1 s2 : Int) (w : World) (u1 : u64 s1) (u2 : u64 s2) (i1 : i64r x1) (i2 : i64r x2) : Calls Tryz.prog 99 #[.int .i64 wd, .agg #[.bool n1, .int .i64 2, .int .i64 x1, .int .u64 s1], .agg #[.bool n2, .int .i64 3, .int .i64 x2, .int .u64 s2]] w (Ans w wd ((2 : Int) = 3 ∨ (3 : Int) = 3)) := by
  have HB := Aside0.mk ((below_alloc (Below.refl w.heap.size w) (.cells #[.bool n1, .int .i64 2, .int .i64 x1, .int .u64 s1] 46)).alloc (by rw [World.size_alloc]; omega) (.cells #[.bool n2, .int .i64 3, .int .i64 x2, .int .u64 s2] 46))
  have C := Aside0.mk C
  have UU := Aside0.mk (And.intro u1 (And.intro u2 (And.intro i1 i2)))
  clear u1 u2 i1 i2
  all_goals
    go_enter Tryz.func99, Tryz.ntmps99
    go_wp2_with (first
      | (go_at_call 7; refine (C.out.N _).mono ?_
         rintro e w1 ⟨rfl, hb⟩
         obtain ⟨n, hn⟩ : ∃ n, n = cN wd := ⟨_, rfl⟩
         have GN := Aside0.mk (show Good wd n by rw [hn]; exact C.out.cn)
         have NN := Aside0.mk hn
         rw [← hn]
         clear hn
         have H1 := Aside0.mk (below_then HB.out HB.out.size hb)
         clear hb)
      | fail)
    all_goals
      refine bodyPost_ret (v := .int .u64 n) (by simp [results, Tryz.results99, go_sem]) rfl ?_
      exact ⟨n, rfl, GN.out, fun _ => NN.out, H1.out⟩
set_option maxRecDepth 100000 in
set_option maxHeartbeats 4000000 in
theorem quo_parts_30 {wd : Int} (C : Fl wd) 
    (n1 n2 : Bool) (x1 x2 s1 s2 : Int) (w : World) (u1 : u64 s1) (u2 : u64 s2) (i1 : i64r x1) (i2 : i64r x2) : Calls Tryz.prog 99 #[.int .i64 wd, .agg #[.bool n1, .int .i64 3, .int .i64 x1, .int .u64 s1], .agg #[.bool n2, .int .i64 0, .int .i64 x2, .int .u64 s2]] w (Ans w wd ((3 : Int) = 3 ∨ (0 : Int) = 3)) := by
  have HB := Aside0.mk ((below_alloc (Below.refl w.heap.size w) (.cells #[.bool n1, .int .i64 3, .int .i64 x1, .int .u64 s1] 46)).alloc (by rw [World.size_alloc]; omega) (.cells #[.bool n2, .int .i64 0, .int .i64 x2, .int .u64 s2] 46))
  have C := Aside0.mk C
  have UU := Aside0.mk (And.intro u1 (And.intro u2 (And.intro i1 i2)))
  clear u1 u2 i1 i2
  all_goals
    go_enter Tryz.func99, Tryz.ntmps99
    go_wp2_with (first
      | (go_at_call 7; refine (C.out.N _).mono ?_
         rintro e w1 ⟨rfl, hb⟩
         obtain ⟨n, hn⟩ : ∃ n, n = cN wd := ⟨_, rfl⟩
         have GN := Aside0.mk (show Good wd n by rw [hn]; exact C.out.cn)
         have NN := Aside0.mk hn
         rw [← hn]
         clear hn
         have H1 := Aside0.mk (below_then HB.out HB.out.size hb)
         clear hb)
      | fail)
    all_goals
      refine bodyPost_ret (v := .int .u64 n) (by simp [results, Tryz.results99, go_sem]) rfl ?_
      exact ⟨n, rfl, GN.out, fun _ => NN.out, H1.out⟩
set_option maxRecDepth 100000 in
set_option maxHeartbeats 4000000 in
theorem quo_parts_31 {wd : Int} (C : Fl wd) 
    (n1 n2 : Bool) (x1 x2 s1 s2 : Int) (w : World) (u1 : u64 s1) (u2 : u64 s2) (i1 : i64r x1) (i2 : i64r x2) : Calls Tryz.prog 99 #[.int .i64 wd, .agg #[.bool n1, .int .i64 3, .int .i64 x1, .int .u64 s1], .agg #[.bool n2, .int .i64 1, .int .i64 x2, .int .u64 s2]] w (Ans w wd ((3 : Int) = 3 ∨ (1 : Int) = 3)) := by
  have HB := Aside0.mk ((below_alloc (Below.refl w.heap.size w) (.cells #[.bool n1, .int .i64 3, .int .i64 x1, .int .u64 s1] 46)).alloc (by rw [World.size_alloc]; omega) (.cells #[.bool n2, .int .i64 1, .int .i64 x2, .int .u64 s2] 46))
  have C := Aside0.mk C
  have UU := Aside0.mk (And.intro u1 (And.intro u2 (And.intro i1 i2)))
  clear u1 u2 i1 i2
  all_goals
    go_enter Tryz.func99, Tryz.ntmps99
    go_wp2_with (first
      | (go_at_call 7; refine (C.out.N _).mono ?_
         rintro e w1 ⟨rfl, hb⟩
         obtain ⟨n, hn⟩ : ∃ n, n = cN wd := ⟨_, rfl⟩
         have GN := Aside0.mk (show Good wd n by rw [hn]; exact C.out.cn)
         have NN := Aside0.mk hn
         rw [← hn]
         clear hn
         have H1 := Aside0.mk (below_then HB.out HB.out.size hb)
         clear hb)
      | fail)
    all_goals
      refine bodyPost_ret (v := .int .u64 n) (by simp [results, Tryz.results99, go_sem]) rfl ?_
      exact ⟨n, rfl, GN.out, fun _ => NN.out, H1.out⟩
set_option maxRecDepth 100000 in
set_option maxHeartbeats 4000000 in
theorem quo_parts_32 {wd : Int} (C : Fl wd) 
    (n1 n2 : Bool) (x1 x2 s1 s2 : Int) (w : World) (u1 : u64 s1) (u2 : u64 s2) (i1 : i64r x1) (i2 : i64r x2) : Calls Tryz.prog 99 #[.int .i64 wd, .agg #[.bool n1, .int .i64 3, .int .i64 x1, .int .u64 s1], .agg #[.bool n2, .int .i64 2, .int .i64 x2, .int .u64 s2]] w (Ans w wd ((3 : Int) = 3 ∨ (2 : Int) = 3)) := by
  have HB := Aside0.mk ((below_alloc (Below.refl w.heap.size w) (.cells #[.bool n1, .int .i64 3, .int .i64 x1, .int .u64 s1] 46)).alloc (by rw [World.size_alloc]; omega) (.cells #[.bool n2, .int .i64 2, .int .i64 x2, .int .u64 s2] 46))
  have C := Aside0.mk C
  have UU := Aside0.mk (And.intro u1 (And.intro u2 (And.intro i1 i2)))
  clear u1 u2 i1 i2
  all_goals
    go_enter Tryz.func99, Tryz.ntmps99
    go_wp2_with (first
      | (go_at_call 7; refine (C.out.N _).mono ?_
         rintro e w1 ⟨rfl, hb⟩
         obtain ⟨n, hn⟩ : ∃ n, n = cN wd := ⟨_, rfl⟩
         have GN := Aside0.mk (show Good wd n by rw [hn]; exact C.out.cn)
         have NN := Aside0.mk hn
         rw [← hn]
         clear hn
         have H1 := Aside0.mk (below_then HB.out HB.out.size hb)
         clear hb)
      | fail)
    all_goals
      refine bodyPost_ret (v := .int .u64 n) (by simp [results, Tryz.results99, go_sem]) rfl ?_
      exact ⟨n, rfl, GN.out, fun _ => NN.out, H1.out⟩
set_option maxRecDepth 100000 in
set_option maxHeartbeats 4000000 in
theorem quo_parts_33 {wd : Int} (C : Fl wd) 
    (n1 n2 : Bool) (x1 x2 s1 s2 : Int) (w : World) (u1 : u64 s1) (u2 : u64 s2) (i1 : i64r x1) (i2 : i64r x2) : Calls Tryz.prog 99 #[.int .i64 wd, .agg #[.bool n1, .int .i64 3, .int .i64 x1, .int .u64 s1], .agg #[.bool n2, .int .i64 3, .int .i64 x2, .int .u64 s2]] w (Ans w wd ((3 : Int) = 3 ∨ (3 : Int) = 3)) := by
  have HB := Aside0.mk ((below_alloc (Below.refl w.heap.size w) (.cells #[.bool n1, .int .i64 3, .int .i64 x1, .int .u64 s1] 46)).alloc (by rw [World.size_alloc]; omega) (.cells #[.bool n2, .int .i64 3, .int .i64 x2, .int .u64 s2] 46))
  have C := Aside0.mk C
  have UU := Aside0.mk (And.intro u1 (And.intro u2 (And.intro i1 i2)))
  clear u1 u2 i1 i2
  all_goals
    go_enter Tryz.func99, Tryz.ntmps99
    go_wp2_with (first
      | (go_at_call 7; refine (C.out.N _).mono ?_
         rintro e w1 ⟨rfl, hb⟩
         obtain ⟨n, hn⟩ : ∃ n, n = cN wd := ⟨_, rfl⟩
         have GN := Aside0.mk (show Good wd n by rw [hn]; exact C.out.cn)
         have NN := Aside0.mk hn
         rw [← hn]
         clear hn
         have H1 := Aside0.mk (below_then HB.out HB.out.size hb)
         clear hb)
      | fail)
    all_goals
      refine bodyPost_ret (v := .int .u64 n) (by simp [results, Tryz.results99, go_sem]) rfl ?_
      exact ⟨n, rfl, GN.out, fun _ => NN.out, H1.out⟩
theorem quo_parts {wd : Int} (C : Fl wd) 
    (n1 n2 : Bool) (k1 k2 x1 x2 s1 s2 : Int) (w : World) (h1 : Kd4 k1) (h2 : Kd4 k2) (u1 : u64 s1) (u2 : u64 s2) (i1 : i64r x1) (i2 : i64r x2) : Calls Tryz.prog 99 #[.int .i64 wd, .agg #[.bool n1, .int .i64 k1, .int .i64 x1, .int .u64 s1], .agg #[.bool n2, .int .i64 k2, .int .i64 x2, .int .u64 s2]] w (Ans w wd (k1 = 3 ∨ k2 = 3)) := by
  rcases h1 with rfl | rfl | rfl | rfl <;> rcases h2 with rfl | rfl | rfl | rfl
  · exact quo_parts_00 C n1 n2 x1 x2 s1 s2 w u1 u2 i1 i2
  · exact quo_parts_01 C n1 n2 x1 x2 s1 s2 w u1 u2 i1 i2
  · exact quo_parts_02 C n1 n2 x1 x2 s1 s2 w u1 u2 i1 i2
  · exact quo_parts_03 C n1 n2 x1 x2 s1 s2 w u1 u2 i1 i2
  · exact quo_parts_10 C n1 n2 x1 x2 s1 s2 w u1 u2 i1 i2
  · exact quo_parts_11 C n1 n2 x1 x2 s1 s2 w u1 u2 i1 i2
  · exact quo_parts_12 C n1 n2 x1 x2 s1 s2 w u1 u2 i1 i2
  · exact quo_parts_13 C n1 n2 x1 x2 s1 s2 w u1 u2 i1 i2
  · exact quo_parts_20 C n1 n2 x1 x2 s1 s2 w u1 u2 i1 i2
  · exact quo_parts_21 C n1 n2 x1 x2 s1 s2 w u1 u2 i1 i2
  · exact quo_parts_22 C n1 n2 x1 x2 s1 s2 w u1 u2 i1 i2
  · exact quo_parts_23 C n1 n2 x1 x2 s1 s2 w u1 u2 i1 i2
  · exact quo_parts_30 C n1 n2 x1 x2 s1 s2 w u1 u2 i1 i2
  · exact quo_parts_31 C n1 n2 x1 x2 s1 s2 w u1 u2 i1 i2
  · exact quo_parts_32 C n1 n2 x1 x2 s1 s2 w u1 u2 i1 i2
  · exact quo_parts_33 C n1 n2 x1 x2 s1 s2 w u1 u2 i1 i2
set_option maxRecDepth 100000 in
set_option maxHeartbeats 4000000 in
theorem quo_Div {wd : Int} (C : Fl wd) (a b : Int) (w : World) (ua : u64 a) (ub : u64 b) : Calls Tryz.prog 54 #[.int .i64 wd, .int .u64 a, .int .u64 b] w (Ans w wd (isN wd a ∨ isN wd b)) := by
  have UU := Aside0.mk (And.intro ua ub)
  clear ua ub
  have C := Aside0.mk C
  have KN := Aside0.mk C.out.wid
  have kd : (wd != 32) = false ∨ ((wd != 32) = true ∧ (wd != 64) = false) := by rcases C.out.wid with h | h <;> simp [h]
  rcases kd with k1 | ⟨k1, k2⟩
  all_goals
    go_enter Tryz.func54, Tryz.ntmps54
    go_wp2_with (first
      | (go_at_call_of 23 a; refine (C.out.O a _ UU.out.1).mono ?_
         rintro e w1 ⟨n1, k1, x1, s1, rfl, p1, hb⟩
         have P1 := Aside0.mk p1
         have H1 := Aside0.mk hb
         clear p1 hb)
      | (go_at_call_of 23 b; refine (C.out.O b _ UU.out.2).mono ?_
         rintro e w2 ⟨n2, k2, x2, s2, rfl, p2, hb⟩
         have P2 := Aside0.mk p2
         have H2 := Aside0.mk (below_then H1.out H1.out.size hb)
         clear p2 hb)
      | (go_at_call 99; refine (quo_parts C.out n1 n2 _ _ _ _ _ _ _ (parts_rng P1.out).1 (parts_rng P2.out).1 (parts_rng P1.out).2.2 (parts_rng P2.out).2.2 (parts_rng P1.out).2.1 (parts_rng P2.out).2.1).mono ?_
         intro e w3 ha
         obtain ⟨n, rfl, r⟩ := ans_of P1.out P2.out H2.out ha
         have RR := Aside0.mk r
         clear ha r)
      | fail)
    refine bodyPost_ret (v := .int .u64 n) (by simp [results, Tryz.results54, go_sem]) rfl ?_
    exact ⟨n, rfl, RR.out⟩
end Go.Proofs.YticonaahlplbjaaGreatDoor.Tn
