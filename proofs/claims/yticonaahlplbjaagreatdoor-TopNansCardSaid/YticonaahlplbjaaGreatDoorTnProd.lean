/- wide.Mul (some wide number), product.parts, sum.align, sum.finite. -/
import Derived.Test.YticonaahlplbjaaGreatDoorTnFl
namespace Go.Proofs.YticonaahlplbjaaGreatDoor.Tn
open Go.RowKit Go.Proofs.YticonaahlplbjaaGreatDoor.PTopNans Go.Proofs.YticonaahlplbjaaGreatDoorW.PrintWords Go.Proofs.YticonaahlplbjaaGreatDoorW.PrintLast Go.Proofs.YticonaahlplbjaaGreatDoorW.PrintMore
set_option linter.unusedVariables false
set_option linter.unusedSimpArgs false
theorem Mul_calls (a b : Int) (w : World) : Calls Tryz.prog 129 #[.int .u64 a, .int .u64 b] w (WideP w) := by
  have K : ∃ r1 r2, wide_Mul.f a b = some (r1, r2) ∧ u64 r1 ∧ u64 r2 := by
    unfold wide_Mul.f bits_Mul64.f
    exact ⟨_, _, rfl, u64_wrap _, u64_wrap _⟩
  obtain ⟨r1, r2, e, h1, h2⟩ := K
  refine (wide_Mul.calls a b r1 r2 w e).mono ?_
  rintro e w' ⟨rfl, hb⟩
  exact ⟨r1, r2, rfl, h1, h2, hb⟩
set_option maxRecDepth 100000 in
set_option maxHeartbeats 4000000 in
theorem prod_11 {wd : Int} (C : Fl wd) (n1 n2 : Bool) (x1 x2 s1 s2 : Int) (w : World) (u1 : u64 s1) (u2 : u64 s2) : Calls Tryz.prog 98 #[.int .i64 wd, .agg #[.bool n1, .int .i64 1, .int .i64 x1, .int .u64 s1], .agg #[.bool n2, .int .i64 1, .int .i64 x2, .int .u64 s2]] w (GoodP w wd) := by
  have HB := Aside0.mk ((below_alloc (Below.refl w.heap.size w) (.cells #[.bool n1, .int .i64 1, .int .i64 x1, .int .u64 s1] 46)).alloc (by rw [World.size_alloc]; omega) (.cells #[.bool n2, .int .i64 1, .int .i64 x2, .int .u64 s2] 46))
  have qA := heap_alloc_new w (.cells #[.bool n1, .int .i64 1, .int .i64 x1, .int .u64 s1] 46)
  have QA := Aside0.mk ((heap_alloc_old (.cells #[.bool n2, .int .i64 1, .int .i64 x2, .int .u64 s2] 46) (blk_lt qA)).trans qA)
  have qB := heap_alloc_new (w.alloc (.cells #[.bool n1, .int .i64 1, .int .i64 x1, .int .u64 s1] 46)) (.cells #[.bool n2, .int .i64 1, .int .i64 x2, .int .u64 s2] 46)
  rw [World.size_alloc] at qB
  have QB := Aside0.mk qB
  clear qA qB
  have C := Aside0.mk C
  go_enter Tryz.func98, Tryz.ntmps98
  go_wp2
  go_region_held (fun W => W.cell? ⟨w.heap.size, 2, none⟩ = some (.int .i64 x1) ∧ W.cell? ⟨w.heap.size, 3, none⟩ = some (.int .u64 s1) ∧ W.cell? ⟨w.heap.size + 1, 2, none⟩ = some (.int .i64 x2) ∧ W.cell? ⟨w.heap.size + 1, 3, none⟩ = some (.int .u64 s2)) (go_keep) (first
    | (go_at_call 129; refine (Mul_calls s1 s2 _).mono ?_
       rintro e w1 ⟨h, l, rfl, v1, v2, hb⟩
       have QA' := (hb.block _ (blk_lt QA.out)).trans QA.out
       have QB' := (hb.block _ (blk_lt QB.out)).trans QB.out
       have H1 := Aside0.mk (below_then (below_drew HB.out) (below_drew HB.out).size hb)
       have VV := Aside0.mk (And.intro v1 v2)
       have a2 : w1.cell? ⟨w.heap.size, 2, none⟩ = some (.int .i64 x1) := (blk_cell QA' 2).trans rfl
       have a3 : w1.cell? ⟨w.heap.size, 3, none⟩ = some (.int .u64 s1) := (blk_cell QA' 3).trans rfl
       have a6 : w1.cell? ⟨w.heap.size + 1, 2, none⟩ = some (.int .i64 x2) := (blk_cell QB' 2).trans rfl
       have a7 : w1.cell? ⟨w.heap.size + 1, 3, none⟩ = some (.int .u64 s2) := (blk_cell QB' 3).trans rfl
       have QA1 := Aside0.mk QA'
       have QB1 := Aside0.mk QB'
       clear hb v1 v2 QA' QB')
    | (go_at_call 123; refine (C.out.P _ _ _ _ _ _ VV.out.1 VV.out.2 (i64_wrap _)).mono ?_
       rintro e w2 ⟨n, rfl, gn, hb⟩
       have QA' := (hb.block _ (blk_lt QA1.out)).trans QA1.out
       have QB' := (hb.block _ (blk_lt QB1.out)).trans QB1.out
       have H2 := Aside0.mk (below_then H1.out H1.out.size hb)
       have GN := Aside0.mk gn
       clear a2 a3 a6 a7
       have a2 : w2.cell? ⟨w.heap.size, 2, none⟩ = some (.int .i64 x1) := (blk_cell QA' 2).trans rfl
       have a3 : w2.cell? ⟨w.heap.size, 3, none⟩ = some (.int .u64 s1) := (blk_cell QA' 3).trans rfl
       have a6 : w2.cell? ⟨w.heap.size + 1, 2, none⟩ = some (.int .i64 x2) := (blk_cell QB' 2).trans rfl
       have a7 : w2.cell? ⟨w.heap.size + 1, 3, none⟩ = some (.int .u64 s2) := (blk_cell QB' 3).trans rfl
       clear hb gn QA' QB')
    | fail)
  all_goals
    go_wp2
    refine bodyPost_ret (v := .int .u64 n) (by simp [results, Tryz.results98, go_sem]) rfl ?_
    exact ⟨n, rfl, GN.out, H2.out⟩
set_option maxRecDepth 100000 in
set_option maxHeartbeats 4000000 in
theorem prod_parts_00 {wd : Int} (C : Fl wd) 
    (n1 n2 : Bool) (x1 x2 s1 s2 : Int) (w : World) (u1 : u64 s1) (u2 : u64 s2) (i1 : i64r x1) (i2 : i64r x2) : Calls Tryz.prog 98 #[.int .i64 wd, .agg #[.bool n1, .int .i64 0, .int .i64 x1, .int .u64 s1], .agg #[.bool n2, .int .i64 0, .int .i64 x2, .int .u64 s2]] w (Ans w wd ((0 : Int) = 3 ∨ (0 : Int) = 3)) := by
  have HB := Aside0.mk ((below_alloc (Below.refl w.heap.size w) (.cells #[.bool n1, .int .i64 0, .int .i64 x1, .int .u64 s1] 46)).alloc (by rw [World.size_alloc]; omega) (.cells #[.bool n2, .int .i64 0, .int .i64 x2, .int .u64 s2] 46))
  have C := Aside0.mk C
  have UU := Aside0.mk (And.intro u1 (And.intro u2 (And.intro i1 i2)))
  clear u1 u2 i1 i2
  all_goals
    go_enter Tryz.func98, Tryz.ntmps98
    go_wp2_with (first
      | (go_at_call 92; refine (C.out.Z _ _).mono ?_
         rintro e w1 ⟨n, rfl, gn, hb⟩
         have GN := Aside0.mk gn
         clear gn
         have H1 := Aside0.mk (below_then HB.out HB.out.size hb)
         clear hb)
      | fail)
    all_goals
      refine bodyPost_ret (v := .int .u64 n) (by simp [results, Tryz.results98, go_sem]) rfl ?_
      exact ⟨n, rfl, GN.out, fun h => absurd h (by decide), H1.out⟩
set_option maxRecDepth 100000 in
set_option maxHeartbeats 4000000 in
theorem prod_parts_01 {wd : Int} (C : Fl wd) 
    (n1 n2 : Bool) (x1 x2 s1 s2 : Int) (w : World) (u1 : u64 s1) (u2 : u64 s2) (i1 : i64r x1) (i2 : i64r x2) : Calls Tryz.prog 98 #[.int .i64 wd, .agg #[.bool n1, .int .i64 0, .int .i64 x1, .int .u64 s1], .agg #[.bool n2, .int .i64 1, .int .i64 x2, .int .u64 s2]] w (Ans w wd ((0 : Int) = 3 ∨ (1 : Int) = 3)) := by
  have HB := Aside0.mk ((below_alloc (Below.refl w.heap.size w) (.cells #[.bool n1, .int .i64 0, .int .i64 x1, .int .u64 s1] 46)).alloc (by rw [World.size_alloc]; omega) (.cells #[.bool n2, .int .i64 1, .int .i64 x2, .int .u64 s2] 46))
  have C := Aside0.mk C
  have UU := Aside0.mk (And.intro u1 (And.intro u2 (And.intro i1 i2)))
  clear u1 u2 i1 i2
  all_goals
    go_enter Tryz.func98, Tryz.ntmps98
    go_wp2_with (first
      | (go_at_call 92; refine (C.out.Z _ _).mono ?_
         rintro e w1 ⟨n, rfl, gn, hb⟩
         have GN := Aside0.mk gn
         clear gn
         have H1 := Aside0.mk (below_then HB.out HB.out.size hb)
         clear hb)
      | fail)
    all_goals
      refine bodyPost_ret (v := .int .u64 n) (by simp [results, Tryz.results98, go_sem]) rfl ?_
      exact ⟨n, rfl, GN.out, fun h => absurd h (by decide), H1.out⟩
set_option maxRecDepth 100000 in
set_option maxHeartbeats 4000000 in
theorem prod_parts_02 {wd : Int} (C : Fl wd) 
    (n1 n2 : Bool) (x1 x2 s1 s2 : Int) (w : World) (u1 : u64 s1) (u2 : u64 s2) (i1 : i64r x1) (i2 : i64r x2) : Calls Tryz.prog 98 #[.int .i64 wd, .agg #[.bool n1, .int .i64 0, .int .i64 x1, .int .u64 s1], .agg #[.bool n2, .int .i64 2, .int .i64 x2, .int .u64 s2]] w (Ans w wd ((0 : Int) = 3 ∨ (2 : Int) = 3)) := by
  have HB := Aside0.mk ((below_alloc (Below.refl w.heap.size w) (.cells #[.bool n1, .int .i64 0, .int .i64 x1, .int .u64 s1] 46)).alloc (by rw [World.size_alloc]; omega) (.cells #[.bool n2, .int .i64 2, .int .i64 x2, .int .u64 s2] 46))
  have C := Aside0.mk C
  have UU := Aside0.mk (And.intro u1 (And.intro u2 (And.intro i1 i2)))
  clear u1 u2 i1 i2
  all_goals
    go_enter Tryz.func98, Tryz.ntmps98
    go_wp2_with (first
      | (go_at_call 7; refine (C.out.N _).mono ?_
         rintro e w1 ⟨rfl, hb⟩
         obtain ⟨n, hn⟩ : ∃ n, n = cN wd := ⟨_, rfl⟩
         have GN := Aside0.mk (show Good wd n by rw [hn]; exact C.out.cn)
         have NN := Aside0.mk hn
         rw [← hn]
         clear hn
         have H1 := Aside0.mk (below_then HB.out HB.out.size hb)
         clear hb)
      | fail)
    all_goals
      refine bodyPost_ret (v := .int .u64 n) (by simp [results, Tryz.results98, go_sem]) rfl ?_
      exact ⟨n, rfl, GN.out, fun h => absurd h (by decide), H1.out⟩
set_option maxRecDepth 100000 in
set_option maxHeartbeats 4000000 in
theorem prod_parts_03 {wd : Int} (C : Fl wd) 
    (n1 n2 : Bool) (x1 x2 s1 s2 : Int) (w : World) (u1 : u64 s1) (u2 : u64 s2) (i1 : i64r x1) (i2 : i64r x2) : Calls Tryz.prog 98 #[.int .i64 wd, .agg #[.bool n1, .int .i64 0, .int .i64 x1, .int .u64 s1], .agg #[.bool n2, .int .i64 3, .int .i64 x2, .int .u64 s2]] w (Ans w wd ((0 : Int) = 3 ∨ (3 : Int) = 3)) := by
  have HB := Aside0.mk ((below_alloc (Below.refl w.heap.size w) (.cells #[.bool n1, .int .i64 0, .int .i64 x1, .int .u64 s1] 46)).alloc (by rw [World.size_alloc]; omega) (.cells #[.bool n2, .int .i64 3, .int .i64 x2, .int .u64 s2] 46))
  have C := Aside0.mk C
  have UU := Aside0.mk (And.intro u1 (And.intro u2 (And.intro i1 i2)))
  clear u1 u2 i1 i2
  all_goals
    go_enter Tryz.func98, Tryz.ntmps98
    go_wp2_with (first
      | (go_at_call 7; refine (C.out.N _).mono ?_
         rintro e w1 ⟨rfl, hb⟩
         obtain ⟨n, hn⟩ : ∃ n, n = cN wd := ⟨_, rfl⟩
         have GN := Aside0.mk (show Good wd n by rw [hn]; exact C.out.cn)
         have NN := Aside0.mk hn
         rw [← hn]
         clear hn
         have H1 := Aside0.mk (below_then HB.out HB.out.size hb)
         clear hb)
      | fail)
    all_goals
      refine bodyPost_ret (v := .int .u64 n) (by simp [results, Tryz.results98, go_sem]) rfl ?_
      exact ⟨n, rfl, GN.out, fun _ => NN.out, H1.out⟩
set_option maxRecDepth 100000 in
set_option maxHeartbeats 4000000 in
theorem prod_parts_10 {wd : Int} (C : Fl wd) 
    (n1 n2 : Bool) (x1 x2 s1 s2 : Int) (w : World) (u1 : u64 s1) (u2 : u64 s2) (i1 : i64r x1) (i2 : i64r x2) : Calls Tryz.prog 98 #[.int .i64 wd, .agg #[.bool n1, .int .i64 1, .int .i64 x1, .int .u64 s1], .agg #[.bool n2, .int .i64 0, .int .i64 x2, .int .u64 s2]] w (Ans w wd ((1 : Int) = 3 ∨ (0 : Int) = 3)) := by
  have HB := Aside0.mk ((below_alloc (Below.refl w.heap.size w) (.cells #[.bool n1, .int .i64 1, .int .i64 x1, .int .u64 s1] 46)).alloc (by rw [World.size_alloc]; omega) (.cells #[.bool n2, .int .i64 0, .int .i64 x2, .int .u64 s2] 46))
  have C := Aside0.mk C
  have UU := Aside0.mk (And.intro u1 (And.intro u2 (And.intro i1 i2)))
  clear u1 u2 i1 i2
  all_goals
    go_enter Tryz.func98, Tryz.ntmps98
    go_wp2_with (first
      | (go_at_call 92; refine (C.out.Z _ _).mono ?_
         rintro e w1 ⟨n, rfl, gn, hb⟩
         have GN := Aside0.mk gn
         clear gn
         have H1 := Aside0.mk (below_then HB.out HB.out.size hb)
         clear hb)
      | fail)
    all_goals
      refine bodyPost_ret (v := .int .u64 n) (by simp [results, Tryz.results98, go_sem]) rfl ?_
      exact ⟨n, rfl, GN.out, fun h => absurd h (by decide), H1.out⟩
theorem prod_parts_11 {wd : Int} (C : Fl wd) (n1 n2 : Bool) (x1 x2 s1 s2 : Int) (w : World) (u1 : u64 s1) (u2 : u64 s2) (i1 : i64r x1) (i2 : i64r x2) : Calls Tryz.prog 98 #[.int .i64 wd, .agg #[.bool n1, .int .i64 1, .int .i64 x1, .int .u64 s1], .agg #[.bool n2, .int .i64 1, .int .i64 x2, .int .u64 s2]] w (Ans w wd ((1 : Int) = 3 ∨ (1 : Int) = 3)) := by
  refine (prod_11 C n1 n2 x1 x2 s1 s2 w u1 u2).mono ?_
  intro e w' h
  exact h.ans (by decide)
set_option maxRecDepth 100000 in
set_option maxHeartbeats 4000000 in
theorem prod_parts_12 {wd : Int} (C : Fl wd) 
    (n1 n2 : Bool) (x1 x2 s1 s2 : Int) (w : World) (u1 : u64 s1) (u2 : u64 s2) (i1 : i64r x1) (i2 : i64r x2) : Calls Tryz.prog 98 #[.int .i64 wd, .agg #[.bool n1, .int .i64 1, .int .i64 x1, .int .u64 s1], .agg #[.bool n2, .int .i64 2, .int .i64 x2, .int .u64 s2]] w (Ans w wd ((1 : Int) = 3 ∨ (2 : Int) = 3)) := by
  have HB := Aside0.mk ((below_alloc (Below.refl w.heap.size w) (.cells #[.bool n1, .int .i64 1, .int .i64 x1, .int .u64 s1] 46)).alloc (by rw [World.size_alloc]; omega) (.cells #[.bool n2, .int .i64 2, .int .i64 x2, .int .u64 s2] 46))
  have C := Aside0.mk C
  have UU := Aside0.mk (And.intro u1 (And.intro u2 (And.intro i1 i2)))
  clear u1 u2 i1 i2
  all_goals
    go_enter Tryz.func98, Tryz.ntmps98
    go_wp2_with (first
      | (go_at_call 93; refine (C.out.I _ _).mono ?_
         rintro e w1 ⟨n, rfl, gn, hb⟩
         have GN := Aside0.mk gn
         clear gn
         have H1 := Aside0.mk (below_then HB.out HB.out.size hb)
         clear hb)
      | fail)
    all_goals
      refine bodyPost_ret (v := .int .u64 n) (by simp [results, Tryz.results98, go_sem]) rfl ?_
      exact ⟨n, rfl, GN.out, fun h => absurd h (by decide), H1.out⟩
set_option maxRecDepth 100000 in
set_option maxHeartbeats 4000000 in
theorem prod_parts_13 {wd : Int} (C : Fl wd) 
    (n1 n2 : Bool) (x1 x2 s1 s2 : Int) (w : World) (u1 : u64 s1) (u2 : u64 s2) (i1 : i64r x1) (i2 : i64r x2) : Calls Tryz.prog 98 #[.int .i64 wd, .agg #[.bool n1, .int .i64 1, .int .i64 x1, .int .u64 s1], .agg #[.bool n2, .int .i64 3, .int .i64 x2, .int .u64 s2]] w (Ans w wd ((1 : Int) = 3 ∨ (3 : Int) = 3)) := by
  have HB := Aside0.mk ((below_alloc (Below.refl w.heap.size w) (.cells #[.bool n1, .int .i64 1, .int .i64 x1, .int .u64 s1] 46)).alloc (by rw [World.size_alloc]; omega) (.cells #[.bool n2, .int .i64 3, .int .i64 x2, .int .u64 s2] 46))
  have C := Aside0.mk C
  have UU := Aside0.mk (And.intro u1 (And.intro u2 (And.intro i1 i2)))
  clear u1 u2 i1 i2
  all_goals
    go_enter Tryz.func98, Tryz.ntmps98
    go_wp2_with (first
      | (go_at_call 7; refine (C.out.N _).mono ?_
         rintro e w1 ⟨rfl, hb⟩
         obtain ⟨n, hn⟩ : ∃ n, n = cN wd := ⟨_, rfl⟩
         have GN := Aside0.mk (show Good wd n by rw [hn]; exact C.out.cn)
         have NN := Aside0.mk hn
         rw [← hn]
         clear hn
         have H1 := Aside0.mk (below_then HB.out HB.out.size hb)
         clear hb)
      | fail)
    all_goals
      refine bodyPost_ret (v := .int .u64 n) (by simp [results, Tryz.results98, go_sem]) rfl ?_
      exact ⟨n, rfl, GN.out, fun _ => NN.out, H1.out⟩
set_option maxRecDepth 100000 in
set_option maxHeartbeats 4000000 in
theorem prod_parts_20 {wd : Int} (C : Fl wd) 
    (n1 n2 : Bool) (x1 x2 s1 s2 : Int) (w : World) (u1 : u64 s1) (u2 : u64 s2) (i1 : i64r x1) (i2 : i64r x2) : Calls Tryz.prog 98 #[.int .i64 wd, .agg #[.bool n1, .int .i64 2, .int .i64 x1, .int .u64 s1], .agg #[.bool n2, .int .i64 0, .int .i64 x2, .int .u64 s2]] w (Ans w wd ((2 : Int) = 3 ∨ (0 : Int) = 3)) := by
  have HB := Aside0.mk ((below_alloc (Below.refl w.heap.size w) (.cells #[.bool n1, .int .i64 2, .int .i64 x1, .int .u64 s1] 46)).alloc (by rw [World.size_alloc]; omega) (.cells #[.bool n2, .int .i64 0, .int .i64 x2, .int .u64 s2] 46))
  have C := Aside0.mk C
  have UU := Aside0.mk (And.intro u1 (And.intro u2 (And.intro i1 i2)))
  clear u1 u2 i1 i2
  all_goals
    go_enter Tryz.func98, Tryz.ntmps98
    go_wp2_with (first
      | (go_at_call 7; refine (C.out.N _).mono ?_
         rintro e w1 ⟨rfl, hb⟩
         obtain ⟨n, hn⟩ : ∃ n, n = cN wd := ⟨_, rfl⟩
         have GN := Aside0.mk (show Good wd n by rw [hn]; exact C.out.cn)
         have NN := Aside0.mk hn
         rw [← hn]
         clear hn
         have H1 := Aside0.mk (below_then HB.out HB.out.size hb)
         clear hb)
      | fail)
    all_goals
      refine bodyPost_ret (v := .int .u64 n) (by simp [results, Tryz.results98, go_sem]) rfl ?_
      exact ⟨n, rfl, GN.out, fun h => absurd h (by decide), H1.out⟩
set_option maxRecDepth 100000 in
set_option maxHeartbeats 4000000 in
theorem prod_parts_21 {wd : Int} (C : Fl wd) 
    (n1 n2 : Bool) (x1 x2 s1 s2 : Int) (w : World) (u1 : u64 s1) (u2 : u64 s2) (i1 : i64r x1) (i2 : i64r x2) : Calls Tryz.prog 98 #[.int .i64 wd, .agg #[.bool n1, .int .i64 2, .int .i64 x1, .int .u64 s1], .agg #[.bool n2, .int .i64 1, .int .i64 x2, .int .u64 s2]] w (Ans w wd ((2 : Int) = 3 ∨ (1 : Int) = 3)) := by
  have HB := Aside0.mk ((below_alloc (Below.refl w.heap.size w) (.cells #[.bool n1, .int .i64 2, .int .i64 x1, .int .u64 s1] 46)).alloc (by rw [World.size_alloc]; omega) (.cells #[.bool n2, .int .i64 1, .int .i64 x2, .int .u64 s2] 46))
  have C := Aside0.mk C
  have UU := Aside0.mk (And.intro u1 (And.intro u2 (And.intro i1 i2)))
  clear u1 u2 i1 i2
  all_goals
    go_enter Tryz.func98, Tryz.ntmps98
    go_wp2_with (first
      | (go_at_call 93; refine (C.out.I _ _).mono ?_
         rintro e w1 ⟨n, rfl, gn, hb⟩
         have GN := Aside0.mk gn
         clear gn
         have H1 := Aside0.mk (below_then HB.out HB.out.size hb)
         clear hb)
      | fail)
    all_goals
      refine bodyPost_ret (v := .int .u64 n) (by simp [results, Tryz.results98, go_sem]) rfl ?_
      exact ⟨n, rfl, GN.out, fun h => absurd h (by decide), H1.out⟩
set_option maxRecDepth 100000 in
set_option maxHeartbeats 4000000 in
theorem prod_parts_22 {wd : Int} (C : Fl wd) 
    (n1 n2 : Bool) (x1 x2 s1 s2 : Int) (w : World) (u1 : u64 s1) (u2 : u64 s2) (i1 : i64r x1) (i2 : i64r x2) : Calls Tryz.prog 98 #[.int .i64 wd, .agg #[.bool n1, .int .i64 2, .int .i64 x1, .int .u64 s1], .agg #[.bool n2, .int .i64 2, .int .i64 x2, .int .u64 s2]] w (Ans w wd ((2 : Int) = 3 ∨ (2 : Int) = 3)) := by
  have HB := Aside0.mk ((below_alloc (Below.refl w.heap.size w) (.cells #[.bool n1, .int .i64 2, .int .i64 x1, .int .u64 s1] 46)).alloc (by rw [World.size_alloc]; omega) (.cells #[.bool n2, .int .i64 2, .int .i64 x2, .int .u64 s2] 46))
  have C := Aside0.mk C
  have UU := Aside0.mk (And.intro u1 (And.intro u2 (And.intro i1 i2)))
  clear u1 u2 i1 i2
  all_goals
    go_enter Tryz.func98, Tryz.ntmps98
    go_wp2_with (first
      | (go_at_call 93; refine (C.out.I _ _).mono ?_
         rintro e w1 ⟨n, rfl, gn, hb⟩
         have GN := Aside0.mk gn
         clear gn
         have H1 := Aside0.mk (below_then HB.out HB.out.size hb)
         clear hb)
      | fail)
    all_goals
      refine bodyPost_ret (v := .int .u64 n) (by simp [results, Tryz.results98, go_sem]) rfl ?_
      exact ⟨n, rfl, GN.out, fun h => absurd h (by decide), H1.out⟩
set_option maxRecDepth 100000 in
set_option maxHeartbeats 4000000 in
theorem prod_parts_23 {wd : Int} (C : Fl wd) 
    (n1 n2 : Bool) (x1 x2 s1 s2 : Int) (w : World) (u1 : u64 s1) (u2 : u64 s2) (i1 : i64r x1) (i2 : i64r x2) : Calls Tryz.prog 98 #[.int .i64 wd, .agg #[.bool n1, .int .i64 2, .int .i64 x1, .int .u64 s1], .agg #[.bool n2, .int .i64 3, .int .i64 x2, .int .u64 s2]] w (Ans w wd ((2 : Int) = 3 ∨ (3 : Int) = 3)) := by
  have HB := Aside0.mk ((below_alloc (Below.refl w.heap.size w) (.cells #[.bool n1, .int .i64 2, .int .i64 x1, .int .u64 s1] 46)).alloc (by rw [World.size_alloc]; omega) (.cells #[.bool n2, .int .i64 3, .int .i64 x2, .int .u64 s2] 46))
  have C := Aside0.mk C
  have UU := Aside0.mk (And.intro u1 (And.intro u2 (And.intro i1 i2)))
  clear u1 u2 i1 i2
  all_goals
    go_enter Tryz.func98, Tryz.ntmps98
    go_wp2_with (first
      | (go_at_call 7; refine (C.out.N _).mono ?_
         rintro e w1 ⟨rfl, hb⟩
         obtain ⟨n, hn⟩ : ∃ n, n = cN wd := ⟨_, rfl⟩
         have GN := Aside0.mk (show Good wd n by rw [hn]; exact C.out.cn)
         have NN := Aside0.mk hn
         rw [← hn]
         clear hn
         have H1 := Aside0.mk (below_then HB.out HB.out.size hb)
         clear hb)
      | fail)
    all_goals
      refine bodyPost_ret (v := .int .u64 n) (by simp [results, Tryz.results98, go_sem]) rfl ?_
      exact ⟨n, rfl, GN.out, fun _ => NN.out, H1.out⟩
set_option maxRecDepth 100000 in
set_option maxHeartbeats 4000000 in
theorem prod_parts_30 {wd : Int} (C : Fl wd) 
    (n1 n2 : Bool) (x1 x2 s1 s2 : Int) (w : World) (u1 : u64 s1) (u2 : u64 s2) (i1 : i64r x1) (i2 : i64r x2) : Calls Tryz.prog 98 #[.int .i64 wd, .agg #[.bool n1, .int .i64 3, .int .i64 x1, .int .u64 s1], .agg #[.bool n2, .int .i64 0, .int .i64 x2, .int .u64 s2]] w (Ans w wd ((3 : Int) = 3 ∨ (0 : Int) = 3)) := by
  have HB := Aside0.mk ((below_alloc (Below.refl w.heap.size w) (.cells #[.bool n1, .int .i64 3, .int .i64 x1, .int .u64 s1] 46)).alloc (by rw [World.size_alloc]; omega) (.cells #[.bool n2, .int .i64 0, .int .i64 x2, .int .u64 s2] 46))
  have C := Aside0.mk C
  have UU := Aside0.mk (And.intro u1 (And.intro u2 (And.intro i1 i2)))
  clear u1 u2 i1 i2
  all_goals
    go_enter Tryz.func98, Tryz.ntmps98
    go_wp2_with (first
      | (go_at_call 7; refine (C.out.N _).mono ?_
         rintro e w1 ⟨rfl, hb⟩
         obtain ⟨n, hn⟩ : ∃ n, n = cN wd := ⟨_, rfl⟩
         have GN := Aside0.mk (show Good wd n by rw [hn]; exact C.out.cn)
         have NN := Aside0.mk hn
         rw [← hn]
         clear hn
         have H1 := Aside0.mk (below_then HB.out HB.out.size hb)
         clear hb)
      | fail)
    all_goals
      refine bodyPost_ret (v := .int .u64 n) (by simp [results, Tryz.results98, go_sem]) rfl ?_
      exact ⟨n, rfl, GN.out, fun _ => NN.out, H1.out⟩
set_option maxRecDepth 100000 in
set_option maxHeartbeats 4000000 in
theorem prod_parts_31 {wd : Int} (C : Fl wd) 
    (n1 n2 : Bool) (x1 x2 s1 s2 : Int) (w : World) (u1 : u64 s1) (u2 : u64 s2) (i1 : i64r x1) (i2 : i64r x2) : Calls Tryz.prog 98 #[.int .i64 wd, .agg #[.bool n1, .int .i64 3, .int .i64 x1, .int .u64 s1], .agg #[.bool n2, .int .i64 1, .int .i64 x2, .int .u64 s2]] w (Ans w wd ((3 : Int) = 3 ∨ (1 : Int) = 3)) := by
  have HB := Aside0.mk ((below_alloc (Below.refl w.heap.size w) (.cells #[.bool n1, .int .i64 3, .int .i64 x1, .int .u64 s1] 46)).alloc (by rw [World.size_alloc]; omega) (.cells #[.bool n2, .int .i64 1, .int .i64 x2, .int .u64 s2] 46))
  have C := Aside0.mk C
  have UU := Aside0.mk (And.intro u1 (And.intro u2 (And.intro i1 i2)))
  clear u1 u2 i1 i2
  all_goals
    go_enter Tryz.func98, Tryz.ntmps98
    go_wp2_with (first
      | (go_at_call 7; refine (C.out.N _).mono ?_
         rintro e w1 ⟨rfl, hb⟩
         obtain ⟨n, hn⟩ : ∃ n, n = cN wd := ⟨_, rfl⟩
         have GN := Aside0.mk (show Good wd n by rw [hn]; exact C.out.cn)
         have NN := Aside0.mk hn
         rw [← hn]
         clear hn
         have H1 := Aside0.mk (below_then HB.out HB.out.size hb)
         clear hb)
      | fail)
    all_goals
      refine bodyPost_ret (v := .int .u64 n) (by simp [results, Tryz.results98, go_sem]) rfl ?_
      exact ⟨n, rfl, GN.out, fun _ => NN.out, H1.out⟩
set_option maxRecDepth 100000 in
set_option maxHeartbeats 4000000 in
theorem prod_parts_32 {wd : Int} (C : Fl wd) 
    (n1 n2 : Bool) (x1 x2 s1 s2 : Int) (w : World) (u1 : u64 s1) (u2 : u64 s2) (i1 : i64r x1) (i2 : i64r x2) : Calls Tryz.prog 98 #[.int .i64 wd, .agg #[.bool n1, .int .i64 3, .int .i64 x1, .int .u64 s1], .agg #[.bool n2, .int .i64 2, .int .i64 x2, .int .u64 s2]] w (Ans w wd ((3 : Int) = 3 ∨ (2 : Int) = 3)) := by
  have HB := Aside0.mk ((below_alloc (Below.refl w.heap.size w) (.cells #[.bool n1, .int .i64 3, .int .i64 x1, .int .u64 s1] 46)).alloc (by rw [World.size_alloc]; omega) (.cells #[.bool n2, .int .i64 2, .int .i64 x2, .int .u64 s2] 46))
  have C := Aside0.mk C
  have UU := Aside0.mk (And.intro u1 (And.intro u2 (And.intro i1 i2)))
  clear u1 u2 i1 i2
  all_goals
    go_enter Tryz.func98, Tryz.ntmps98
    go_wp2_with (first
      | (go_at_call 7; refine (C.out.N _).mono ?_
         rintro e w1 ⟨rfl, hb⟩
         obtain ⟨n, hn⟩ : ∃ n, n = cN wd := ⟨_, rfl⟩
         have GN := Aside0.mk (show Good wd n by rw [hn]; exact C.out.cn)
         have NN := Aside0.mk hn
         rw [← hn]
         clear hn
         have H1 := Aside0.mk (below_then HB.out HB.out.size hb)
         clear hb)
      | fail)
    all_goals
      refine bodyPost_ret (v := .int .u64 n) (by simp [results, Tryz.results98, go_sem]) rfl ?_
      exact ⟨n, rfl, GN.out, fun _ => NN.out, H1.out⟩
set_option maxRecDepth 100000 in
set_option maxHeartbeats 4000000 in
theorem prod_parts_33 {wd : Int} (C : Fl wd) 
    (n1 n2 : Bool) (x1 x2 s1 s2 : Int) (w : World) (u1 : u64 s1) (u2 : u64 s2) (i1 : i64r x1) (i2 : i64r x2) : Calls Tryz.prog 98 #[.int .i64 wd, .agg #[.bool n1, .int .i64 3, .int .i64 x1, .int .u64 s1], .agg #[.bool n2, .int .i64 3, .int .i64 x2, .int .u64 s2]] w (Ans w wd ((3 : Int) = 3 ∨ (3 : Int) = 3)) := by
  have HB := Aside0.mk ((below_alloc (Below.refl w.heap.size w) (.cells #[.bool n1, .int .i64 3, .int .i64 x1, .int .u64 s1] 46)).alloc (by rw [World.size_alloc]; omega) (.cells #[.bool n2, .int .i64 3, .int .i64 x2, .int .u64 s2] 46))
  have C := Aside0.mk C
  have UU := Aside0.mk (And.intro u1 (And.intro u2 (And.intro i1 i2)))
  clear u1 u2 i1 i2
  all_goals
    go_enter Tryz.func98, Tryz.ntmps98
    go_wp2_with (first
      | (go_at_call 7; refine (C.out.N _).mono ?_
         rintro e w1 ⟨rfl, hb⟩
         obtain ⟨n, hn⟩ : ∃ n, n = cN wd := ⟨_, rfl⟩
         have GN := Aside0.mk (show Good wd n by rw [hn]; exact C.out.cn)
         have NN := Aside0.mk hn
         rw [← hn]
         clear hn
         have H1 := Aside0.mk (below_then HB.out HB.out.size hb)
         clear hb)
      | fail)
    all_goals
      refine bodyPost_ret (v := .int .u64 n) (by simp [results, Tryz.results98, go_sem]) rfl ?_
      exact ⟨n, rfl, GN.out, fun _ => NN.out, H1.out⟩
theorem prod_parts {wd : Int} (C : Fl wd) 
    (n1 n2 : Bool) (k1 k2 x1 x2 s1 s2 : Int) (w : World) (h1 : Kd4 k1) (h2 : Kd4 k2) (u1 : u64 s1) (u2 : u64 s2) (i1 : i64r x1) (i2 : i64r x2) : Calls Tryz.prog 98 #[.int .i64 wd, .agg #[.bool n1, .int .i64 k1, .int .i64 x1, .int .u64 s1], .agg #[.bool n2, .int .i64 k2, .int .i64 x2, .int .u64 s2]] w (Ans w wd (k1 = 3 ∨ k2 = 3)) := by
  rcases h1 with rfl | rfl | rfl | rfl <;> rcases h2 with rfl | rfl | rfl | rfl
  · exact prod_parts_00 C n1 n2 x1 x2 s1 s2 w u1 u2 i1 i2
  · exact prod_parts_01 C n1 n2 x1 x2 s1 s2 w u1 u2 i1 i2
  · exact prod_parts_02 C n1 n2 x1 x2 s1 s2 w u1 u2 i1 i2
  · exact prod_parts_03 C n1 n2 x1 x2 s1 s2 w u1 u2 i1 i2
  · exact prod_parts_10 C n1 n2 x1 x2 s1 s2 w u1 u2 i1 i2
  · exact prod_parts_11 C n1 n2 x1 x2 s1 s2 w u1 u2 i1 i2
  · exact prod_parts_12 C n1 n2 x1 x2 s1 s2 w u1 u2 i1 i2
  · exact prod_parts_13 C n1 n2 x1 x2 s1 s2 w u1 u2 i1 i2
  · exact prod_parts_20 C n1 n2 x1 x2 s1 s2 w u1 u2 i1 i2
  · exact prod_parts_21 C n1 n2 x1 x2 s1 s2 w u1 u2 i1 i2
  · exact prod_parts_22 C n1 n2 x1 x2 s1 s2 w u1 u2 i1 i2
  · exact prod_parts_23 C n1 n2 x1 x2 s1 s2 w u1 u2 i1 i2
  · exact prod_parts_30 C n1 n2 x1 x2 s1 s2 w u1 u2 i1 i2
  · exact prod_parts_31 C n1 n2 x1 x2 s1 s2 w u1 u2 i1 i2
  · exact prod_parts_32 C n1 n2 x1 x2 s1 s2 w u1 u2 i1 i2
  · exact prod_parts_33 C n1 n2 x1 x2 s1 s2 w u1 u2 i1 i2
end Go.Proofs.YticonaahlplbjaaGreatDoor.Tn
