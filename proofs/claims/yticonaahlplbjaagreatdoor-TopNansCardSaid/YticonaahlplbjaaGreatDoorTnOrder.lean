/- order: Rank, asked, Eq, Lt, Gt, pick, Min, Max. -/
import Derived.Test.YticonaahlplbjaaGreatDoorTnMade
import Derived.Test.YticonaahlplbjaaGreatDoorTnCast
namespace Go.Proofs.YticonaahlplbjaaGreatDoor.Tn
open Go.RowKit Go.Proofs.YticonaahlplbjaaGreatDoor.PTopNans Go.Proofs.YticonaahlplbjaaGreatDoorW.PrintWords Go.Proofs.YticonaahlplbjaaGreatDoorW.PrintLast Go.Proofs.YticonaahlplbjaaGreatDoorW.PrintMore
set_option linter.unusedVariables false
set_option linter.unusedSimpArgs false
set_option maxRecDepth 100000 in
set_option maxHeartbeats 4000000 in
theorem known72_32 (w : World) : Calls Tryz.prog 72 #[.int .i64 32] w fun e w' => e = .returned (.bool true) ∧ w' = w := by
  go_enter Tryz.func72, Tryz.ntmps72
  go_wp2
  go_ret
  exact ⟨rfl, rfl⟩
set_option maxRecDepth 100000 in
set_option maxHeartbeats 4000000 in
theorem known72_64 (w : World) : Calls Tryz.prog 72 #[.int .i64 64] w fun e w' => e = .returned (.bool true) ∧ w' = w := by
  go_enter Tryz.func72, Tryz.ntmps72
  go_wp2
  go_ret
  exact ⟨rfl, rfl⟩
theorem known72 {wd : Int} (h : wd = 32 ∨ wd = 64) (w : World) : Calls Tryz.prog 72 #[.int .i64 wd] w fun e w' => e = .returned (.bool true) ∧ w' = w := by
  rcases h with rfl | rfl
  · exact known72_32 w
  · exact known72_64 w
set_option maxRecDepth 100000 in
set_option maxHeartbeats 4000000 in
theorem Rank_calls {wd : Int} (C : Fl wd) (a : Int) (w : World) (ua : u64 a) : Calls Tryz.prog 106 #[.int .i64 wd, .int .u64 a] w fun e w' => (∃ n b, e = .returned (.tuple #[.int .i64 n, .bool b])) ∧ Below w.heap.size w w' := by
  have UA := Aside0.mk ua
  have C := Aside0.mk C
  clear ua
  all_goals
    go_enter Tryz.func106, Tryz.ntmps106
    go_upto_region 2 with (first
      | (go_at_call 23; refine (C.out.O a _ UA.out).mono ?_
         rintro e w1 ⟨n1, k1, x1, s1, rfl, p1, hb⟩
         have P1 := Aside0.mk p1
         have H1 := Aside0.mk (hb.alloc hb.size (.cells #[.bool n1, .int .i64 k1, .int .i64 x1, .int .u64 s1] 46))
         have Q1 := Aside0.mk (heap_alloc_new w1 (.cells #[.bool n1, .int .i64 k1, .int .i64 x1, .int .u64 s1] 46))
         clear p1 hb)
      | fail)
    obtain ⟨W1, hW1⟩ : ∃ W, W = w1.alloc (.cells #[.bool n1, .int .i64 k1, .int .i64 x1, .int .u64 s1] 46) := ⟨_, rfl⟩
    obtain ⟨q, hq⟩ : ∃ q, q = w1.heap.size := ⟨_, rfl⟩
    rw [← hq] at Q1 ⊢
    rw [← hW1] at H1 Q1 ⊢
    clear hW1 hq
    have c0 : W1.cell? ⟨q, 0, none⟩ = some (.bool n1) := (blk_cell Q1.out 0).trans rfl
    have c1 : W1.cell? ⟨q, 1, none⟩ = some (.int .i64 k1) := (blk_cell Q1.out 1).trans rfl
    have c2 : W1.cell? ⟨q, 2, none⟩ = some (.int .i64 x1) := (blk_cell Q1.out 2).trans rfl
    have c3 : W1.cell? ⟨q, 3, none⟩ = some (.int .u64 s1) := (blk_cell Q1.out 3).trans rfl
    have cc : (k1 == 3) = true ∨ (k1 == 3) = false := by cases (k1 == 3) <;> simp
    rcases cc with cc | cc <;> cases n1
    · go_wp2_with (first
        | (go_at_call 72; refine (known72 C.out.wid _).mono ?_; rintro e w0 ⟨rfl, rfl⟩)
        | (go_at_call 8; refine (cut_calls C.out.wid a _ UA.out).mono ?_
           rintro e w2 ⟨r, rfl, ur, hi, hb⟩
           have H2 := Aside0.mk (below_then H1.out H1.out.size hb)
           have Q2 := Aside0.mk ((hb.block _ (blk_lt Q1.out)).trans Q1.out)
           clear ur hi hb c0 c1 c2 c3)
        | (go_at_call 92; refine (C.out.Z _ _).mono ?_
           rintro e w3 ⟨z, rfl, gz, hb⟩
           have H1 := Aside0.mk (below_then H2.out H2.out.size hb)
           have Q3 := Aside0.mk ((hb.block _ (blk_lt Q2.out)).trans Q2.out)
           clear gz hb
           have c0 : w3.cell? ⟨q, 0, none⟩ = some (.bool _) := (blk_cell Q3.out 0).trans rfl
           skip)
        | fail)
      refine bodyPost_ret (v := .tuple #[.int .i64 (0), .bool false]) (by simp [results, Tryz.results106, go_sem]) rfl ?_
      exact ⟨⟨_, _, rfl⟩, H1.out⟩
    · go_wp2_with (first
        | (go_at_call 72; refine (known72 C.out.wid _).mono ?_; rintro e w0 ⟨rfl, rfl⟩)
        | (go_at_call 8; refine (cut_calls C.out.wid a _ UA.out).mono ?_
           rintro e w2 ⟨r, rfl, ur, hi, hb⟩
           have H2 := Aside0.mk (below_then H1.out H1.out.size hb)
           have Q2 := Aside0.mk ((hb.block _ (blk_lt Q1.out)).trans Q1.out)
           clear ur hi hb c0 c1 c2 c3)
        | (go_at_call 92; refine (C.out.Z _ _).mono ?_
           rintro e w3 ⟨z, rfl, gz, hb⟩
           have H1 := Aside0.mk (below_then H2.out H2.out.size hb)
           have Q3 := Aside0.mk ((hb.block _ (blk_lt Q2.out)).trans Q2.out)
           clear gz hb
           have c0 : w3.cell? ⟨q, 0, none⟩ = some (.bool _) := (blk_cell Q3.out 0).trans rfl
           skip)
        | fail)
      refine bodyPost_ret (v := .tuple #[.int .i64 (0), .bool false]) (by simp [results, Tryz.results106, go_sem]) rfl ?_
      exact ⟨⟨_, _, rfl⟩, H1.out⟩
    · go_wp2_with (first
        | (go_at_call 72; refine (known72 C.out.wid _).mono ?_; rintro e w0 ⟨rfl, rfl⟩)
        | (go_at_call 8; refine (cut_calls C.out.wid a _ UA.out).mono ?_
           rintro e w2 ⟨r, rfl, ur, hi, hb⟩
           have H2 := Aside0.mk (below_then H1.out H1.out.size hb)
           have Q2 := Aside0.mk ((hb.block _ (blk_lt Q1.out)).trans Q1.out)
           clear ur hi hb c0 c1 c2 c3)
        | (go_at_call 92; refine (C.out.Z _ _).mono ?_
           rintro e w3 ⟨z, rfl, gz, hb⟩
           have H1 := Aside0.mk (below_then H2.out H2.out.size hb)
           have Q3 := Aside0.mk ((hb.block _ (blk_lt Q2.out)).trans Q2.out)
           clear gz hb
           have c0 : w3.cell? ⟨q, 0, none⟩ = some (.bool _) := (blk_cell Q3.out 0).trans rfl
           skip)
        | fail)
      refine bodyPost_ret (v := .tuple #[.int .i64 (wrap64 (bits .andNot .u64 r z)), .bool true]) (by simp [results, Tryz.results106, go_sem]) rfl ?_
      exact ⟨⟨_, _, rfl⟩, H1.out⟩
    · go_wp2_with (first
        | (go_at_call 72; refine (known72 C.out.wid _).mono ?_; rintro e w0 ⟨rfl, rfl⟩)
        | (go_at_call 8; refine (cut_calls C.out.wid a _ UA.out).mono ?_
           rintro e w2 ⟨r, rfl, ur, hi, hb⟩
           have H2 := Aside0.mk (below_then H1.out H1.out.size hb)
           have Q2 := Aside0.mk ((hb.block _ (blk_lt Q1.out)).trans Q1.out)
           clear ur hi hb c0 c1 c2 c3)
        | (go_at_call 92; refine (C.out.Z _ _).mono ?_
           rintro e w3 ⟨z, rfl, gz, hb⟩
           have H1 := Aside0.mk (below_then H2.out H2.out.size hb)
           have Q3 := Aside0.mk ((hb.block _ (blk_lt Q2.out)).trans Q2.out)
           clear gz hb
           have c0 : w3.cell? ⟨q, 0, none⟩ = some (.bool _) := (blk_cell Q3.out 0).trans rfl
           skip)
        | fail)
      refine bodyPost_ret (v := .tuple #[.int .i64 (wrap64 (-wrap64 (bits .andNot .u64 r z))), .bool true]) (by simp [results, Tryz.results106, go_sem]) rfl ?_
      exact ⟨⟨_, _, rfl⟩, H1.out⟩
set_option maxRecDepth 100000 in
set_option maxHeartbeats 4000000 in
theorem cmp71 (x y : Int) (w : World) : Calls Tryz.prog 71 #[.int .i64 x, .int .i64 y] w fun e w' => (∃ b, e = .returned (.bool b)) ∧ Below w.heap.size w w' := by
  go_enter Tryz.func71, Tryz.ntmps71
  go_wp2
  refine bodyPost_ret (v := .bool (x == y)) (by simp [results, Tryz.results71, go_sem]) rfl ?_
  exact ⟨⟨_, rfl⟩, Below.refl _ _⟩
set_option maxRecDepth 100000 in
set_option maxHeartbeats 4000000 in
theorem asked71 {wd : Int} (C : Fl wd) (a b : Int) (w : World) (ua : u64 a) (ub : u64 b) : Calls Tryz.prog 70 #[.int .i64 wd, .int .u64 a, .int .u64 b, .func (.func 71) #[] #[]] w fun e w' => (∃ b, e = .returned (.bool b)) ∧ Below w.heap.size w w' := by
  have RA := Aside0.mk (fun W => Rank_calls C a W ua)
  have RB := Aside0.mk (fun W => Rank_calls C b W ub)
  clear C ua ub
  go_enter Tryz.func70, Tryz.ntmps70
  go_upto_region 2 with (first
    | (go_at_call 106; refine (RA.out _).mono ?_
       rintro e w1 ⟨⟨x, bx, rfl⟩, hb⟩
       have H1 := Aside0.mk hb
       clear hb)
    | fail)
  go_upto_region 3 with (first
    | (go_at_call 106; refine (RB.out _).mono ?_
       rintro e w2 ⟨⟨y, b2, rfl⟩, hb⟩
       have H2 := Aside0.mk (below_then H1.out H1.out.size hb)
       clear hb)
    | fail)
  cases bx <;> cases b2
  · go_wp2_with (first
      | (go_at_call 71; refine (cmp71 x y _).mono ?_
         rintro e w3 ⟨⟨b3, rfl⟩, hb⟩
         have H2 := Aside0.mk (below_then H2.out H2.out.size hb)
         clear hb)
      | fail)
    refine bodyPost_ret (v := .bool false) (by simp [results, Tryz.results70, go_sem]) rfl ?_
    exact ⟨⟨_, rfl⟩, H2.out⟩
  · go_wp2_with (first
      | (go_at_call 71; refine (cmp71 x y _).mono ?_
         rintro e w3 ⟨⟨b3, rfl⟩, hb⟩
         have H2 := Aside0.mk (below_then H2.out H2.out.size hb)
         clear hb)
      | fail)
    refine bodyPost_ret (v := .bool false) (by simp [results, Tryz.results70, go_sem]) rfl ?_
    exact ⟨⟨_, rfl⟩, H2.out⟩
  · go_wp2_with (first
      | (go_at_call 71; refine (cmp71 x y _).mono ?_
         rintro e w3 ⟨⟨b3, rfl⟩, hb⟩
         have H2 := Aside0.mk (below_then H2.out H2.out.size hb)
         clear hb)
      | fail)
    refine bodyPost_ret (v := .bool false) (by simp [results, Tryz.results70, go_sem]) rfl ?_
    exact ⟨⟨_, rfl⟩, H2.out⟩
  · go_wp2_with (first
      | (go_at_call 71; refine (cmp71 x y _).mono ?_
         rintro e w3 ⟨⟨b3, rfl⟩, hb⟩
         have H2 := Aside0.mk (below_then H2.out H2.out.size hb)
         clear hb)
      | fail)
    refine bodyPost_ret (v := .bool b3) (by simp [results, Tryz.results70, go_sem]) rfl ?_
    exact ⟨⟨_, rfl⟩, H2.out⟩
set_option maxRecDepth 100000 in
set_option maxHeartbeats 4000000 in
theorem cmp73 (x y : Int) (w : World) : Calls Tryz.prog 73 #[.int .i64 x, .int .i64 y] w fun e w' => (∃ b, e = .returned (.bool b)) ∧ Below w.heap.size w w' := by
  go_enter Tryz.func73, Tryz.ntmps73
  go_wp2
  refine bodyPost_ret (v := .bool (decide (x < y))) (by simp [results, Tryz.results73, go_sem]) rfl ?_
  exact ⟨⟨_, rfl⟩, Below.refl _ _⟩
set_option maxRecDepth 100000 in
set_option maxHeartbeats 4000000 in
theorem asked73 {wd : Int} (C : Fl wd) (a b : Int) (w : World) (ua : u64 a) (ub : u64 b) : Calls Tryz.prog 70 #[.int .i64 wd, .int .u64 a, .int .u64 b, .func (.func 73) #[] #[]] w fun e w' => (∃ b, e = .returned (.bool b)) ∧ Below w.heap.size w w' := by
  have RA := Aside0.mk (fun W => Rank_calls C a W ua)
  have RB := Aside0.mk (fun W => Rank_calls C b W ub)
  clear C ua ub
  go_enter Tryz.func70, Tryz.ntmps70
  go_upto_region 2 with (first
    | (go_at_call 106; refine (RA.out _).mono ?_
       rintro e w1 ⟨⟨x, bx, rfl⟩, hb⟩
       have H1 := Aside0.mk hb
       clear hb)
    | fail)
  go_upto_region 3 with (first
    | (go_at_call 106; refine (RB.out _).mono ?_
       rintro e w2 ⟨⟨y, b2, rfl⟩, hb⟩
       have H2 := Aside0.mk (below_then H1.out H1.out.size hb)
       clear hb)
    | fail)
  cases bx <;> cases b2
  · go_wp2_with (first
      | (go_at_call 73; refine (cmp73 x y _).mono ?_
         rintro e w3 ⟨⟨b3, rfl⟩, hb⟩
         have H2 := Aside0.mk (below_then H2.out H2.out.size hb)
         clear hb)
      | fail)
    refine bodyPost_ret (v := .bool false) (by simp [results, Tryz.results70, go_sem]) rfl ?_
    exact ⟨⟨_, rfl⟩, H2.out⟩
  · go_wp2_with (first
      | (go_at_call 73; refine (cmp73 x y _).mono ?_
         rintro e w3 ⟨⟨b3, rfl⟩, hb⟩
         have H2 := Aside0.mk (below_then H2.out H2.out.size hb)
         clear hb)
      | fail)
    refine bodyPost_ret (v := .bool false) (by simp [results, Tryz.results70, go_sem]) rfl ?_
    exact ⟨⟨_, rfl⟩, H2.out⟩
  · go_wp2_with (first
      | (go_at_call 73; refine (cmp73 x y _).mono ?_
         rintro e w3 ⟨⟨b3, rfl⟩, hb⟩
         have H2 := Aside0.mk (below_then H2.out H2.out.size hb)
         clear hb)
      | fail)
    refine bodyPost_ret (v := .bool false) (by simp [results, Tryz.results70, go_sem]) rfl ?_
    exact ⟨⟨_, rfl⟩, H2.out⟩
  · go_wp2_with (first
      | (go_at_call 73; refine (cmp73 x y _).mono ?_
         rintro e w3 ⟨⟨b3, rfl⟩, hb⟩
         have H2 := Aside0.mk (below_then H2.out H2.out.size hb)
         clear hb)
      | fail)
    refine bodyPost_ret (v := .bool b3) (by simp [results, Tryz.results70, go_sem]) rfl ?_
    exact ⟨⟨_, rfl⟩, H2.out⟩
set_option maxRecDepth 100000 in
set_option maxHeartbeats 4000000 in
theorem Eq_calls {wd : Int} (C : Fl wd) (a b : Int) (w : World) (ua : u64 a) (ub : u64 b) : Calls Tryz.prog 30 #[.int .i64 wd, .int .u64 a, .int .u64 b] w fun e w' => (∃ b, e = .returned (.bool b)) ∧ Below w.heap.size w w' := by
  have AC := Aside0.mk (fun W => asked71 C a b W ua ub)
  clear C ua ub
  go_enter Tryz.func30, Tryz.ntmps30
  go_wp2_with (first
    | (go_at_call 70; refine (AC.out _).mono ?_
       rintro e w1 ⟨⟨x, rfl⟩, hb⟩
       have H1 := Aside0.mk hb
       clear hb)
    | fail)
  refine bodyPost_ret (v := .bool x) (by simp [results, Tryz.results30, go_sem]) rfl ?_
  exact ⟨⟨_, rfl⟩, H1.out⟩
set_option maxRecDepth 100000 in
set_option maxHeartbeats 4000000 in
theorem Lt_calls {wd : Int} (C : Fl wd) (a b : Int) (w : World) (ua : u64 a) (ub : u64 b) : Calls Tryz.prog 32 #[.int .i64 wd, .int .u64 a, .int .u64 b] w fun e w' => (∃ b, e = .returned (.bool b)) ∧ Below w.heap.size w w' := by
  have AC := Aside0.mk (fun W => asked73 C a b W ua ub)
  clear C ua ub
  go_enter Tryz.func32, Tryz.ntmps32
  go_wp2_with (first
    | (go_at_call 70; refine (AC.out _).mono ?_
       rintro e w1 ⟨⟨x, rfl⟩, hb⟩
       have H1 := Aside0.mk hb
       clear hb)
    | fail)
  refine bodyPost_ret (v := .bool x) (by simp [results, Tryz.results32, go_sem]) rfl ?_
  exact ⟨⟨_, rfl⟩, H1.out⟩
set_option maxRecDepth 100000 in
set_option maxHeartbeats 4000000 in
theorem Gt_calls {wd : Int} (C : Fl wd) (a b : Int) (w : World) (ua : u64 a) (ub : u64 b) : Calls Tryz.prog 33 #[.int .i64 wd, .int .u64 a, .int .u64 b] w fun e w' => (∃ b, e = .returned (.bool b)) ∧ Below w.heap.size w w' := by
  have AC := Aside0.mk (fun W => Lt_calls C b a W ub ua)
  clear C ua ub
  go_enter Tryz.func33, Tryz.ntmps33
  go_wp2_with (first
    | (go_at_call 32; refine (AC.out _).mono ?_
       rintro e w1 ⟨⟨x, rfl⟩, hb⟩
       have H1 := Aside0.mk hb
       clear hb)
    | fail)
  refine bodyPost_ret (v := .bool x) (by simp [results, Tryz.results33, go_sem]) rfl ?_
  exact ⟨⟨_, rfl⟩, H1.out⟩
end Go.Proofs.YticonaahlplbjaaGreatDoor.Tn
