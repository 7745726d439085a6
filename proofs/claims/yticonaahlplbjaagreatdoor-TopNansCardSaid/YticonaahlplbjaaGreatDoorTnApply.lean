/- numeric.Apply, of the operations that reckon. -/
import Derived.Test.YticonaahlplbjaaGreatDoorTnRounded
namespace Go.Proofs.YticonaahlplbjaaGreatDoor.Tn
open Go.RowKit Go.Proofs.YticonaahlplbjaaGreatDoor.PTopNans Go.Proofs.YticonaahlplbjaaGreatDoorW.PrintWords Go.Proofs.YticonaahlplbjaaGreatDoorW.PrintLast Go.Proofs.YticonaahlplbjaaGreatDoorW.PrintMore
set_option linter.unusedVariables false
set_option linter.unusedSimpArgs false
/-- What numeric.Apply answers. -/
def ApplyP (w : World) (wd : Int) (c : Prop) (e : Ending) (w' : World) : Prop := ∃ n, e = .returned (.tuple #[.int .u64 n, .int .i64 0]) ∧ Good wd n ∧ (c → n = cN wd) ∧ Below w.heap.size w w'
theorem width_fT {wd : Int} (h : wd = 32 ∨ wd = 64) (w : World) : Calls Tryz.prog 9 #[.int .u8 (fT wd)] w fun e w' => e = .returned (.int .i64 wd) ∧ w' = w := by
  rcases h with rfl | rfl
  · exact width_125 w
  · exact width_124 w
set_option maxRecDepth 100000 in
set_option maxHeartbeats 4000000 in
theorem Apply_single {wd : Int} (C : Fl wd) (op at_ a b : Int) (w : World) (ua : u64 a) (ub : u64 b) (h : InD op at_ wd) (hn : 2 ≤ at_ ∧ at_ < 7) : Calls Tryz.prog 4 #[.int .i64 op, .int .u64 a, .int .u64 b] w (ApplyP w wd (isN wd a)) := by
  have KC := Aside0.mk (fun W => Kind_single h hn.2 W)
  have FC := Aside0.mk (fun W => find_D0 op W h.io at_ wd h hn.2)
  have C := Aside0.mk C
  have WC := Aside0.mk (fun W => width_fT C.out.wid W)
  have CA := Aside0.mk (fun W => cut_calls C.out.wid a W ua)
  have CB := Aside0.mk (fun W => cut_calls C.out.wid b W ub)
  have NN := Aside0.mk hn
  clear ua ub hn h
  go_enter Tryz.func4, Tryz.ntmps4
  go_upto_region 5 with (first
    | (go_at_call 5; (with_reducible refine (KC.out _).mono ?_)
       rintro e w1 ⟨rfl, hb⟩
       have HB := Aside0.mk hb
       clear hb)
    | (go_at_call 9; (with_reducible refine (WC.out _).mono ?_); rintro e w' ⟨rfl, rfl⟩)
    | (go_at_call_of 8 a; refine (CA.out _).mono ?_
       rintro e w2 ⟨ra, rfl, ura, ia, hb⟩
       have HB := Aside0.mk (below_then HB.out HB.out.size hb)
       have UA := Aside0.mk (And.intro ura ia)
       clear hb ura ia)
    | (go_at_call_of 8 b; refine (CB.out _).mono ?_
       rintro e w3 ⟨rb, rfl, urb, ib, hb⟩
       have HB := Aside0.mk (below_then HB.out HB.out.size hb)
       have UB := Aside0.mk (And.intro urb ib)
       clear hb urb ib)
    | fail)
  go_upto_region 6 with (first
    | (go_at_call 10; (with_reducible refine (FC.out _).mono ?_)
       rintro e w4 ⟨rfl, hb⟩
       have h1 := below_then HB.out HB.out.size hb
       have HB := Aside0.mk (h1.alloc h1.size (.cells #[.int .i64 6, .int .i64 at_, .int .i64 wd] 34))
       have QP := Aside0.mk (heap_alloc_new w4 (.cells #[.int .i64 6, .int .i64 at_, .int .i64 wd] 34))
       clear hb h1)
    | fail)
  obtain ⟨W1, hW1⟩ : ∃ W, W = w4.alloc (.cells #[.int .i64 6, .int .i64 at_, .int .i64 wd] 34) := ⟨_, rfl⟩
  obtain ⟨p, hp⟩ : ∃ p, p = w4.heap.size := ⟨_, rfl⟩
  rw [← hp] at QP ⊢
  rw [← hW1] at QP HB ⊢
  clear hW1 hp
  have c0 : W1.cell? ⟨p, 0, none⟩ = some (.int .i64 6) := (blk_cell QP.out 0).trans rfl
  have c1 : W1.cell? ⟨p, 1, none⟩ = some (.int .i64 at_) := (blk_cell QP.out 1).trans rfl
  have c2 : W1.cell? ⟨p, 2, none⟩ = some (.int .i64 wd) := (blk_cell QP.out 2).trans rfl
  go_wp2_with (first
    | (go_at_call 16; refine (rounded_calls C.out at_ ra _ UA.out.1 NN.out).mono ?_
       rintro e w5 ⟨n, rfl, g, c, hb⟩
       have RR := Aside0.mk (show Good wd n ∧ (isN wd a → n = cN wd) ∧ Below w.heap.size w w5 from ⟨g, fun h => c (UA.out.2.2 h), below_then HB.out HB.out.size hb⟩)
       clear g c hb)
    | fail)
  all_goals
    refine bodyPost_ret (v := .tuple #[.int .u64 n, .int .i64 0]) (by simp [results, Tryz.results4, go_sem]) rfl ?_
    exact ⟨n, rfl, RR.out⟩
set_option maxRecDepth 100000 in
set_option maxHeartbeats 4000000 in
theorem Apply_double {wd : Int} (C : Fl wd) (op at_ a b : Int) (w : World) (ua : u64 a) (ub : u64 b) (h : InD op at_ wd) (hn : 7 ≤ at_ ∧ at_ < 13) : Calls Tryz.prog 4 #[.int .i64 op, .int .u64 a, .int .u64 b] w (ApplyP w wd (isN wd a ∨ isN wd b)) := by
  have KC := Aside0.mk (fun W => Kind_double h (by omega) W)
  have FC := Aside0.mk (fun W => find_D1 op W h.io at_ wd h (by omega))
  have C := Aside0.mk C
  have WC := Aside0.mk (fun W => width_fT C.out.wid W)
  have CA := Aside0.mk (fun W => cut_calls C.out.wid a W ua)
  have CB := Aside0.mk (fun W => cut_calls C.out.wid b W ub)
  have NN := Aside0.mk hn
  clear ua ub hn h
  go_enter Tryz.func4, Tryz.ntmps4
  go_upto_region 5 with (first
    | (go_at_call 5; (with_reducible refine (KC.out _).mono ?_)
       rintro e w1 ⟨rfl, hb⟩
       have HB := Aside0.mk hb
       clear hb)
    | (go_at_call 9; (with_reducible refine (WC.out _).mono ?_); rintro e w' ⟨rfl, rfl⟩)
    | (go_at_call_of 8 a; refine (CA.out _).mono ?_
       rintro e w2 ⟨ra, rfl, ura, ia, hb⟩
       have HB := Aside0.mk (below_then HB.out HB.out.size hb)
       have UA := Aside0.mk (And.intro ura ia)
       clear hb ura ia)
    | (go_at_call_of 8 b; refine (CB.out _).mono ?_
       rintro e w3 ⟨rb, rfl, urb, ib, hb⟩
       have HB := Aside0.mk (below_then HB.out HB.out.size hb)
       have UB := Aside0.mk (And.intro urb ib)
       clear hb urb ib)
    | fail)
  go_upto_region 6 with (first
    | (go_at_call 10; (with_reducible refine (FC.out _).mono ?_)
       rintro e w4 ⟨rfl, hb⟩
       have h1 := below_then HB.out HB.out.size hb
       have HB := Aside0.mk (h1.alloc h1.size (.cells #[.int .i64 7, .int .i64 at_, .int .i64 wd] 34))
       have QP := Aside0.mk (heap_alloc_new w4 (.cells #[.int .i64 7, .int .i64 at_, .int .i64 wd] 34))
       clear hb h1)
    | fail)
  obtain ⟨W1, hW1⟩ : ∃ W, W = w4.alloc (.cells #[.int .i64 7, .int .i64 at_, .int .i64 wd] 34) := ⟨_, rfl⟩
  obtain ⟨p, hp⟩ : ∃ p, p = w4.heap.size := ⟨_, rfl⟩
  rw [← hp] at QP ⊢
  rw [← hW1] at QP HB ⊢
  clear hW1 hp
  have c0 : W1.cell? ⟨p, 0, none⟩ = some (.int .i64 7) := (blk_cell QP.out 0).trans rfl
  have c1 : W1.cell? ⟨p, 1, none⟩ = some (.int .i64 at_) := (blk_cell QP.out 1).trans rfl
  have c2 : W1.cell? ⟨p, 2, none⟩ = some (.int .i64 wd) := (blk_cell QP.out 2).trans rfl
  go_wp2_with (first
    | (go_at_call 17; refine (floated_calls C.out at_ ra rb _ UA.out.1 UB.out.1 NN.out).mono ?_
       rintro e w5 ⟨n, rfl, g, c, hb⟩
       have RR := Aside0.mk (show Good wd n ∧ (isN wd a ∨ isN wd b → n = cN wd) ∧ Below w.heap.size w w5 from ⟨g, fun h => c (h.imp UA.out.2.2 UB.out.2.2), below_then HB.out HB.out.size hb⟩)
       clear g c hb)
    | fail)
  all_goals
    refine bodyPost_ret (v := .tuple #[.int .u64 n, .int .i64 0]) (by simp [results, Tryz.results4, go_sem]) rfl ?_
    exact ⟨n, rfl, RR.out⟩
set_option maxRecDepth 100000 in
set_option maxHeartbeats 4000000 in
theorem Apply_182 (a b : Int) (w : World) (ua : u64 a) (ub : u64 b) : Calls Tryz.prog 4 #[.int .i64 182, .int .u64 a, .int .u64 b] w (ApplyP w 32 (isN 64 a)) := by
  have KC := Aside0.mk (fun W => Kind_182 W)
  have FC := Aside0.mk (fun W => find_E 182 W (by unfold i64r; decide) 15 (by decide))
  have WC := Aside0.mk (fun W => width_124 W)
  have CA := Aside0.mk (fun W => cut_calls fl64.wid a W ua)
  have CB := Aside0.mk (fun W => cut_calls fl64.wid b W ub)
  clear ua ub
  go_enter Tryz.func4, Tryz.ntmps4
  go_upto_region 5 with (first
    | (go_at_call 5; (with_reducible refine (KC.out _).mono ?_)
       rintro e w1 ⟨rfl, hb⟩
       have HB := Aside0.mk hb
       clear hb)
    | (go_at_call 9; (with_reducible refine (WC.out _).mono ?_); rintro e w' ⟨rfl, rfl⟩)
    | (go_at_call_of 8 a; refine (CA.out _).mono ?_
       rintro e w2 ⟨ra, rfl, ura, ia, hb⟩
       have HB := Aside0.mk (below_then HB.out HB.out.size hb)
       have UA := Aside0.mk (And.intro ura ia)
       clear hb ura ia)
    | (go_at_call_of 8 b; refine (CB.out _).mono ?_
       rintro e w3 ⟨rb, rfl, urb, ib, hb⟩
       have HB := Aside0.mk (below_then HB.out HB.out.size hb)
       have UB := Aside0.mk (And.intro urb ib)
       clear hb urb ib)
    | fail)
  go_upto_region 6 with (first
    | (go_at_call 10; (with_reducible refine (FC.out _).mono ?_)
       rintro e w4 ⟨rfl, hb⟩
       have h1 := below_then HB.out HB.out.size hb
       have HB := Aside0.mk (h1.alloc h1.size (.cells #[.int .i64 8, .int .i64 15, .int .i64 0] 34))
       have QP := Aside0.mk (heap_alloc_new w4 (.cells #[.int .i64 8, .int .i64 15, .int .i64 0] 34))
       clear hb h1)
    | fail)
  obtain ⟨W1, hW1⟩ : ∃ W, W = w4.alloc (.cells #[.int .i64 8, .int .i64 15, .int .i64 0] 34) := ⟨_, rfl⟩
  obtain ⟨p, hp⟩ : ∃ p, p = w4.heap.size := ⟨_, rfl⟩
  rw [← hp] at QP ⊢
  rw [← hW1] at QP HB ⊢
  clear hW1 hp
  have c0 : W1.cell? ⟨p, 0, none⟩ = some (.int .i64 8) := (blk_cell QP.out 0).trans rfl
  have c1 : W1.cell? ⟨p, 1, none⟩ = some (.int .i64 15) := (blk_cell QP.out 1).trans rfl
  have c2 : W1.cell? ⟨p, 2, none⟩ = some (.int .i64 0) := (blk_cell QP.out 2).trans rfl
  go_wp2_with (first
    | (go_at_call 19; refine (turn_15 ra _ UA.out.1).mono ?_
       rintro e w5 ⟨n, rfl, g, c, hb⟩
       have RR := Aside0.mk (show Good 32 n ∧ (isN 64 a → n = cN 32) ∧ Below w.heap.size w w5 from ⟨g, fun h => c (UA.out.2.2 h), below_then HB.out HB.out.size hb⟩)
       clear g c hb)
    | fail)
  all_goals
    refine bodyPost_ret (v := .tuple #[.int .u64 n, .int .i64 0]) (by simp [results, Tryz.results4, go_sem]) rfl ?_
    exact ⟨n, rfl, RR.out⟩
set_option maxRecDepth 100000 in
set_option maxHeartbeats 4000000 in
theorem Apply_187 (a b : Int) (w : World) (ua : u64 a) (ub : u64 b) : Calls Tryz.prog 4 #[.int .i64 187, .int .u64 a, .int .u64 b] w (ApplyP w 64 (isN 32 a)) := by
  have KC := Aside0.mk (fun W => Kind_187 W)
  have FC := Aside0.mk (fun W => find_E 187 W (by unfold i64r; decide) 20 (by decide))
  have WC := Aside0.mk (fun W => width_125 W)
  have CA := Aside0.mk (fun W => cut_calls fl32.wid a W ua)
  have CB := Aside0.mk (fun W => cut_calls fl32.wid b W ub)
  clear ua ub
  go_enter Tryz.func4, Tryz.ntmps4
  go_upto_region 5 with (first
    | (go_at_call 5; (with_reducible refine (KC.out _).mono ?_)
       rintro e w1 ⟨rfl, hb⟩
       have HB := Aside0.mk hb
       clear hb)
    | (go_at_call 9; (with_reducible refine (WC.out _).mono ?_); rintro e w' ⟨rfl, rfl⟩)
    | (go_at_call_of 8 a; refine (CA.out _).mono ?_
       rintro e w2 ⟨ra, rfl, ura, ia, hb⟩
       have HB := Aside0.mk (below_then HB.out HB.out.size hb)
       have UA := Aside0.mk (And.intro ura ia)
       clear hb ura ia)
    | (go_at_call_of 8 b; refine (CB.out _).mono ?_
       rintro e w3 ⟨rb, rfl, urb, ib, hb⟩
       have HB := Aside0.mk (below_then HB.out HB.out.size hb)
       have UB := Aside0.mk (And.intro urb ib)
       clear hb urb ib)
    | fail)
  go_upto_region 6 with (first
    | (go_at_call 10; (with_reducible refine (FC.out _).mono ?_)
       rintro e w4 ⟨rfl, hb⟩
       have h1 := below_then HB.out HB.out.size hb
       have HB := Aside0.mk (h1.alloc h1.size (.cells #[.int .i64 8, .int .i64 20, .int .i64 0] 34))
       have QP := Aside0.mk (heap_alloc_new w4 (.cells #[.int .i64 8, .int .i64 20, .int .i64 0] 34))
       clear hb h1)
    | fail)
  obtain ⟨W1, hW1⟩ : ∃ W, W = w4.alloc (.cells #[.int .i64 8, .int .i64 20, .int .i64 0] 34) := ⟨_, rfl⟩
  obtain ⟨p, hp⟩ : ∃ p, p = w4.heap.size := ⟨_, rfl⟩
  rw [← hp] at QP ⊢
  rw [← hW1] at QP HB ⊢
  clear hW1 hp
  have c0 : W1.cell? ⟨p, 0, none⟩ = some (.int .i64 8) := (blk_cell QP.out 0).trans rfl
  have c1 : W1.cell? ⟨p, 1, none⟩ = some (.int .i64 20) := (blk_cell QP.out 1).trans rfl
  have c2 : W1.cell? ⟨p, 2, none⟩ = some (.int .i64 0) := (blk_cell QP.out 2).trans rfl
  go_wp2_with (first
    | (go_at_call 19; refine (turn_20 ra _ UA.out.1).mono ?_
       rintro e w5 ⟨n, rfl, g, c, hb⟩
       have RR := Aside0.mk (show Good 64 n ∧ (isN 32 a → n = cN 64) ∧ Below w.heap.size w w5 from ⟨g, fun h => c (UA.out.2.2 h), below_then HB.out HB.out.size hb⟩)
       clear g c hb)
    | fail)
  all_goals
    refine bodyPost_ret (v := .tuple #[.int .u64 n, .int .i64 0]) (by simp [results, Tryz.results4, go_sem]) rfl ?_
    exact ⟨n, rfl, RR.out⟩
end Go.Proofs.YticonaahlplbjaaGreatDoor.Tn
