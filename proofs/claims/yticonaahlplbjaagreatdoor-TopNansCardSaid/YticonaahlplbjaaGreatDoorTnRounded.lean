/- numeric.rounded and numeric.floated, of the operations that reckon. -/
import Derived.Test.YticonaahlplbjaaGreatDoorTnKindD
import Derived.Test.YticonaahlplbjaaGreatDoorTnOps
import Derived.Test.YticonaahlplbjaaGreatDoorTnQparts
import Derived.Test.YticonaahlplbjaaGreatDoorTnSqrt
import Derived.Test.YticonaahlplbjaaGreatDoorTnPick
import Derived.Test.YticonaahlplbjaaGreatDoorTnWhole
namespace Go.Proofs.YticonaahlplbjaaGreatDoor.Tn
open Go.RowKit Go.Proofs.YticonaahlplbjaaGreatDoor.PTopNans Go.Proofs.YticonaahlplbjaaGreatDoorW.PrintWords Go.Proofs.YticonaahlplbjaaGreatDoorW.PrintLast Go.Proofs.YticonaahlplbjaaGreatDoorW.PrintMore
set_option linter.unusedVariables false
set_option linter.unusedSimpArgs false
set_option maxRecDepth 100000 in
set_option maxHeartbeats 4000000 in
theorem rounded_2 {wd : Int} (C : Fl wd) (a : Int) (w : World) (ua : u64 a) : Calls Tryz.prog 16 #[.int .i64 2, .int .i64 wd, .int .u64 a] w (Ans w wd (isN wd a)) := by
  have MC := Aside0.mk (fun W => whole_46 C a W ua)
  clear ua C
  go_enter Tryz.func16, Tryz.ntmps16
  go_wp2_with (first
    | (go_at_call 46; (with_reducible refine (MC.out _).mono ?_)
       rintro e w1 ⟨n, rfl, r⟩
       have RR := Aside0.mk r
       clear r)
    | fail)
  refine bodyPost_ret (v := .int .u64 n) (by simp [results, Tryz.results16, go_sem]) rfl ?_
  exact ⟨n, rfl, RR.out⟩
set_option maxRecDepth 100000 in
set_option maxHeartbeats 4000000 in
theorem rounded_3 {wd : Int} (C : Fl wd) (a : Int) (w : World) (ua : u64 a) : Calls Tryz.prog 16 #[.int .i64 3, .int .i64 wd, .int .u64 a] w (Ans w wd (isN wd a)) := by
  have MC := Aside0.mk (fun W => whole_47 C a W ua)
  clear ua C
  go_enter Tryz.func16, Tryz.ntmps16
  go_wp2_with (first
    | (go_at_call 47; (with_reducible refine (MC.out _).mono ?_)
       rintro e w1 ⟨n, rfl, r⟩
       have RR := Aside0.mk r
       clear r)
    | fail)
  refine bodyPost_ret (v := .int .u64 n) (by simp [results, Tryz.results16, go_sem]) rfl ?_
  exact ⟨n, rfl, RR.out⟩
set_option maxRecDepth 100000 in
set_option maxHeartbeats 4000000 in
theorem rounded_4 {wd : Int} (C : Fl wd) (a : Int) (w : World) (ua : u64 a) : Calls Tryz.prog 16 #[.int .i64 4, .int .i64 wd, .int .u64 a] w (Ans w wd (isN wd a)) := by
  have MC := Aside0.mk (fun W => whole_48 C a W ua)
  clear ua C
  go_enter Tryz.func16, Tryz.ntmps16
  go_wp2_with (first
    | (go_at_call 48; (with_reducible refine (MC.out _).mono ?_)
       rintro e w1 ⟨n, rfl, r⟩
       have RR := Aside0.mk r
       clear r)
    | fail)
  refine bodyPost_ret (v := .int .u64 n) (by simp [results, Tryz.results16, go_sem]) rfl ?_
  exact ⟨n, rfl, RR.out⟩
set_option maxRecDepth 100000 in
set_option maxHeartbeats 4000000 in
theorem rounded_5 {wd : Int} (C : Fl wd) (a : Int) (w : World) (ua : u64 a) : Calls Tryz.prog 16 #[.int .i64 5, .int .i64 wd, .int .u64 a] w (Ans w wd (isN wd a)) := by
  have MC := Aside0.mk (fun W => whole_49 C a W ua)
  clear ua C
  go_enter Tryz.func16, Tryz.ntmps16
  go_wp2_with (first
    | (go_at_call 49; (with_reducible refine (MC.out _).mono ?_)
       rintro e w1 ⟨n, rfl, r⟩
       have RR := Aside0.mk r
       clear r)
    | fail)
  refine bodyPost_ret (v := .int .u64 n) (by simp [results, Tryz.results16, go_sem]) rfl ?_
  exact ⟨n, rfl, RR.out⟩
set_option maxRecDepth 100000 in
set_option maxHeartbeats 4000000 in
theorem rounded_6 {wd : Int} (C : Fl wd) (a : Int) (w : World) (ua : u64 a) : Calls Tryz.prog 16 #[.int .i64 6, .int .i64 wd, .int .u64 a] w (Ans w wd (isN wd a)) := by
  have MC := Aside0.mk (fun W => radix_Sqrt C a W ua)
  clear ua C
  go_enter Tryz.func16, Tryz.ntmps16
  go_wp2_with (first
    | (go_at_call 50; (with_reducible refine (MC.out _).mono ?_)
       rintro e w1 ⟨n, rfl, r⟩
       have RR := Aside0.mk r
       clear r)
    | fail)
  refine bodyPost_ret (v := .int .u64 n) (by simp [results, Tryz.results16, go_sem]) rfl ?_
  exact ⟨n, rfl, RR.out⟩
theorem rounded_calls {wd : Int} (C : Fl wd) (at_ a : Int) (w : World) (ua : u64 a) (h : 2 ≤ at_ ∧ at_ < 7) : Calls Tryz.prog 16 #[.int .i64 at_, .int .i64 wd, .int .u64 a] w (Ans w wd (isN wd a)) := by
  have c : at_ = 2 ∨ at_ = 3 ∨ at_ = 4 ∨ at_ = 5 ∨ at_ = 6 := by omega
  rcases c with rfl | rfl | rfl | rfl | rfl
  · exact rounded_2 C a w ua
  · exact rounded_3 C a w ua
  · exact rounded_4 C a w ua
  · exact rounded_5 C a w ua
  · exact rounded_6 C a w ua
set_option maxRecDepth 100000 in
set_option maxHeartbeats 4000000 in
theorem floated_7 {wd : Int} (C : Fl wd) (a b : Int) (w : World) (ua : u64 a) (ub : u64 b) : Calls Tryz.prog 17 #[.int .i64 7, .int .i64 wd, .int .u64 a, .int .u64 b] w (Ans w wd (isN wd a ∨ isN wd b)) := by
  have MC := Aside0.mk (fun W => sum_Add C a b W ua ub)
  clear ua ub C
  go_enter Tryz.func17, Tryz.ntmps17
  go_wp2_with (first
    | (go_at_call 51; (with_reducible refine (MC.out _).mono ?_)
       rintro e w1 ⟨n, rfl, r⟩
       have RR := Aside0.mk r
       clear r)
    | fail)
  refine bodyPost_ret (v := .int .u64 n) (by simp [results, Tryz.results17, go_sem]) rfl ?_
  exact ⟨n, rfl, RR.out⟩
set_option maxRecDepth 100000 in
set_option maxHeartbeats 4000000 in
theorem floated_8 {wd : Int} (C : Fl wd) (a b : Int) (w : World) (ua : u64 a) (ub : u64 b) : Calls Tryz.prog 17 #[.int .i64 8, .int .i64 wd, .int .u64 a, .int .u64 b] w (Ans w wd (isN wd a ∨ isN wd b)) := by
  have MC := Aside0.mk (fun W => sum_Sub C a b W ua ub)
  clear ua ub C
  go_enter Tryz.func17, Tryz.ntmps17
  go_wp2_with (first
    | (go_at_call 52; (with_reducible refine (MC.out _).mono ?_)
       rintro e w1 ⟨n, rfl, r⟩
       have RR := Aside0.mk r
       clear r)
    | fail)
  refine bodyPost_ret (v := .int .u64 n) (by simp [results, Tryz.results17, go_sem]) rfl ?_
  exact ⟨n, rfl, RR.out⟩
set_option maxRecDepth 100000 in
set_option maxHeartbeats 4000000 in
theorem floated_9 {wd : Int} (C : Fl wd) (a b : Int) (w : World) (ua : u64 a) (ub : u64 b) : Calls Tryz.prog 17 #[.int .i64 9, .int .i64 wd, .int .u64 a, .int .u64 b] w (Ans w wd (isN wd a ∨ isN wd b)) := by
  have MC := Aside0.mk (fun W => prod_Mul C a b W ua ub)
  clear ua ub C
  go_enter Tryz.func17, Tryz.ntmps17
  go_wp2_with (first
    | (go_at_call 53; (with_reducible refine (MC.out _).mono ?_)
       rintro e w1 ⟨n, rfl, r⟩
       have RR := Aside0.mk r
       clear r)
    | fail)
  refine bodyPost_ret (v := .int .u64 n) (by simp [results, Tryz.results17, go_sem]) rfl ?_
  exact ⟨n, rfl, RR.out⟩
set_option maxRecDepth 100000 in
set_option maxHeartbeats 4000000 in
theorem floated_10 {wd : Int} (C : Fl wd) (a b : Int) (w : World) (ua : u64 a) (ub : u64 b) : Calls Tryz.prog 17 #[.int .i64 10, .int .i64 wd, .int .u64 a, .int .u64 b] w (Ans w wd (isN wd a ∨ isN wd b)) := by
  have MC := Aside0.mk (fun W => quo_Div C a b W ua ub)
  clear ua ub C
  go_enter Tryz.func17, Tryz.ntmps17
  go_wp2_with (first
    | (go_at_call 54; (with_reducible refine (MC.out _).mono ?_)
       rintro e w1 ⟨n, rfl, r⟩
       have RR := Aside0.mk r
       clear r)
    | fail)
  refine bodyPost_ret (v := .int .u64 n) (by simp [results, Tryz.results17, go_sem]) rfl ?_
  exact ⟨n, rfl, RR.out⟩
set_option maxRecDepth 100000 in
set_option maxHeartbeats 4000000 in
theorem floated_11 {wd : Int} (C : Fl wd) (a b : Int) (w : World) (ua : u64 a) (ub : u64 b) : Calls Tryz.prog 17 #[.int .i64 11, .int .i64 wd, .int .u64 a, .int .u64 b] w (Ans w wd (isN wd a ∨ isN wd b)) := by
  have MC := Aside0.mk (fun W => order_Min C a b W ua ub)
  clear ua ub C
  go_enter Tryz.func17, Tryz.ntmps17
  go_wp2_with (first
    | (go_at_call 55; (with_reducible refine (MC.out _).mono ?_)
       rintro e w1 ⟨n, rfl, r⟩
       have RR := Aside0.mk r
       clear r)
    | fail)
  refine bodyPost_ret (v := .int .u64 n) (by simp [results, Tryz.results17, go_sem]) rfl ?_
  exact ⟨n, rfl, RR.out⟩
set_option maxRecDepth 100000 in
set_option maxHeartbeats 4000000 in
theorem floated_12 {wd : Int} (C : Fl wd) (a b : Int) (w : World) (ua : u64 a) (ub : u64 b) : Calls Tryz.prog 17 #[.int .i64 12, .int .i64 wd, .int .u64 a, .int .u64 b] w (Ans w wd (isN wd a ∨ isN wd b)) := by
  have MC := Aside0.mk (fun W => order_Max C a b W ua ub)
  clear ua ub C
  go_enter Tryz.func17, Tryz.ntmps17
  go_wp2_with (first
    | (go_at_call 56; (with_reducible refine (MC.out _).mono ?_)
       rintro e w1 ⟨n, rfl, r⟩
       have RR := Aside0.mk r
       clear r)
    | fail)
  refine bodyPost_ret (v := .int .u64 n) (by simp [results, Tryz.results17, go_sem]) rfl ?_
  exact ⟨n, rfl, RR.out⟩
theorem floated_calls {wd : Int} (C : Fl wd) (at_ a b : Int) (w : World) (ua : u64 a) (ub : u64 b) (h : 7 ≤ at_ ∧ at_ < 13) : Calls Tryz.prog 17 #[.int .i64 at_, .int .i64 wd, .int .u64 a, .int .u64 b] w (Ans w wd (isN wd a ∨ isN wd b)) := by
  have c : at_ = 7 ∨ at_ = 8 ∨ at_ = 9 ∨ at_ = 10 ∨ at_ = 11 ∨ at_ = 12 := by omega
  rcases c with rfl | rfl | rfl | rfl | rfl | rfl
  · exact floated_7 C a b w ua ub
  · exact floated_8 C a b w ua ub
  · exact floated_9 C a b w ua ub
  · exact floated_10 C a b w ua ub
  · exact floated_11 C a b w ua ub
  · exact floated_12 C a b w ua ub
set_option maxRecDepth 100000 in
set_option maxHeartbeats 4000000 in
theorem turn_15 (a : Int) (w : World) (ua : u64 a) : Calls Tryz.prog 19 #[.int .i64 15, .int .u64 a] w fun e w' => ∃ n, e = .returned (.tuple #[.int .u64 n, .int .i64 0]) ∧ Good 32 n ∧ (isN 64 a → n = cN 32) ∧ Below w.heap.size w w' := by
  have MC := Aside0.mk (fun W => Demote_calls a W ua)
  have TC := Aside0.mk turned_at15
  clear ua
  go_enter Tryz.func19, Tryz.ntmps19
  go_wp2_with (first
    | (go_at_call 22; (with_reducible refine (TC.out _).mono ?_); rintro e w' ⟨rfl, rfl⟩)
    | (go_at_call 61; (with_reducible refine (MC.out _).mono ?_)
       rintro e w1 ⟨n, rfl, r⟩
       have RR := Aside0.mk r
       clear r)
    | fail)
  refine bodyPost_ret (v := .tuple #[.int .u64 n, .int .i64 0]) (by simp [results, Tryz.results19, go_sem]) rfl ?_
  exact ⟨n, rfl, RR.out⟩
set_option maxRecDepth 100000 in
set_option maxHeartbeats 4000000 in
theorem turn_20 (a : Int) (w : World) (ua : u64 a) : Calls Tryz.prog 19 #[.int .i64 20, .int .u64 a] w fun e w' => ∃ n, e = .returned (.tuple #[.int .u64 n, .int .i64 0]) ∧ Good 64 n ∧ (isN 32 a → n = cN 64) ∧ Below w.heap.size w w' := by
  have MC := Aside0.mk (fun W => Promote_calls a W ua)
  have TC := Aside0.mk turned_at20
  clear ua
  go_enter Tryz.func19, Tryz.ntmps19
  go_wp2_with (first
    | (go_at_call 22; (with_reducible refine (TC.out _).mono ?_); rintro e w' ⟨rfl, rfl⟩)
    | (go_at_call 62; (with_reducible refine (MC.out _).mono ?_)
       rintro e w1 ⟨n, rfl, r⟩
       have RR := Aside0.mk r
       clear r)
    | fail)
  refine bodyPost_ret (v := .tuple #[.int .u64 n, .int .i64 0]) (by simp [results, Tryz.results19, go_sem]) rfl ?_
  exact ⟨n, rfl, RR.out⟩
end Go.Proofs.YticonaahlplbjaaGreatDoor.Tn
