/- sum.Add, sum.Sub, product.Mul at both widths. -/
import Derived.Test.YticonaahlplbjaaGreatDoorTnFin
namespace Go.Proofs.YticonaahlplbjaaGreatDoor.Tn
open Go.RowKit Go.Proofs.YticonaahlplbjaaGreatDoor.PTopNans Go.Proofs.YticonaahlplbjaaGreatDoorW.PrintWords Go.Proofs.YticonaahlplbjaaGreatDoorW.PrintLast Go.Proofs.YticonaahlplbjaaGreatDoorW.PrintMore
set_option linter.unusedVariables false
set_option linter.unusedSimpArgs false
theorem ans_of {w w1 W : World} {wd a b : Int} {n1 n2 : Bool} {k1 x1 s1 k2 x2 s2 : Int} {e : Ending} (p1 : Parts wd a n1 k1 x1 s1) (p2 : Parts wd b n2 k2 x2 s2) (hw : Below w.heap.size w w1) (h : Ans w1 wd (k1 = 3 ∨ k2 = 3) e W) : Ans w wd (isN wd a ∨ isN wd b) e W := by
  obtain ⟨n, he, g, c, hb⟩ := h
  exact ⟨n, he, g, fun hc => c (hc.imp p1.nan.2 p2.nan.2), below_then hw hw.size hb⟩
set_option maxRecDepth 100000 in
set_option maxHeartbeats 4000000 in
theorem known95_32 (w : World) : Calls Tryz.prog 95 #[.int .i64 32] w fun e w' => e = .returned (.bool true) ∧ w' = w := by
  go_enter Tryz.func95, Tryz.ntmps95
  go_wp2
  go_ret
  exact ⟨rfl, rfl⟩
set_option maxRecDepth 100000 in
set_option maxHeartbeats 4000000 in
theorem known95_64 (w : World) : Calls Tryz.prog 95 #[.int .i64 64] w fun e w' => e = .returned (.bool true) ∧ w' = w := by
  go_enter Tryz.func95, Tryz.ntmps95
  go_wp2
  go_ret
  exact ⟨rfl, rfl⟩
theorem known95 {wd : Int} (h : wd = 32 ∨ wd = 64) (w : World) : Calls Tryz.prog 95 #[.int .i64 wd] w fun e w' => e = .returned (.bool true) ∧ w' = w := by
  rcases h with rfl | rfl
  · exact known95_32 w
  · exact known95_64 w
set_option maxRecDepth 100000 in
set_option maxHeartbeats 4000000 in
theorem known97_32 (w : World) : Calls Tryz.prog 97 #[.int .i64 32] w fun e w' => e = .returned (.bool true) ∧ w' = w := by
  go_enter Tryz.func97, Tryz.ntmps97
  go_wp2
  go_ret
  exact ⟨rfl, rfl⟩
set_option maxRecDepth 100000 in
set_option maxHeartbeats 4000000 in
theorem known97_64 (w : World) : Calls Tryz.prog 97 #[.int .i64 64] w fun e w' => e = .returned (.bool true) ∧ w' = w := by
  go_enter Tryz.func97, Tryz.ntmps97
  go_wp2
  go_ret
  exact ⟨rfl, rfl⟩
theorem known97 {wd : Int} (h : wd = 32 ∨ wd = 64) (w : World) : Calls Tryz.prog 97 #[.int .i64 wd] w fun e w' => e = .returned (.bool true) ∧ w' = w := by
  rcases h with rfl | rfl
  · exact known97_32 w
  · exact known97_64 w
set_option maxRecDepth 100000 in
set_option maxHeartbeats 4000000 in
theorem sum_Add {wd : Int} (C : Fl wd) (a b : Int) (w : World) (ua : u64 a) (ub : u64 b) : Calls Tryz.prog 51 #[.int .i64 wd, .int .u64 a, .int .u64 b] w (Ans w wd (isN wd a ∨ isN wd b)) := by
  have UU := Aside0.mk (And.intro ua ub)
  clear ua ub
  have C := Aside0.mk C
  have KN := Aside0.mk C.out.wid
  all_goals
    go_enter Tryz.func51, Tryz.ntmps51
    go_wp2_with (first
      | (go_at_call 95; refine (known95 KN.out _).mono ?_; rintro e w0 ⟨rfl, rfl⟩)
      | (go_at_call_of 23 a; refine (C.out.O a _ UU.out.1).mono ?_
         rintro e w1 ⟨n1, k1, x1, s1, rfl, p1, hb⟩
         have P1 := Aside0.mk p1
         have H1 := Aside0.mk hb
         clear p1 hb)
      | (go_at_call_of 23 b; refine (C.out.O b _ UU.out.2).mono ?_
         rintro e w2 ⟨n2, k2, x2, s2, rfl, p2, hb⟩
         have P2 := Aside0.mk p2
         have H2 := Aside0.mk (below_then H1.out H1.out.size hb)
         clear p2 hb)
      | (go_at_call 96; refine (sum_parts C.out (fun n1 n2 k1 k2 x1 x2 s1 s2 W u1 u2 i1 i2 => finite_calls C.out n1 n2 k1 k2 x1 x2 s1 s2 W u1 u2 i1 i2) n1 n2 _ _ _ _ _ _ _ (parts_rng P1.out).1 (parts_rng P2.out).1 (parts_rng P1.out).2.2 (parts_rng P2.out).2.2 (parts_rng P1.out).2.1 (parts_rng P2.out).2.1).mono ?_
         intro e w3 ha
         obtain ⟨n, rfl, r⟩ := ans_of P1.out P2.out H2.out ha
         have RR := Aside0.mk r
         clear ha r)
      | fail)
    refine bodyPost_ret (v := .int .u64 n) (by simp [results, Tryz.results51, go_sem]) rfl ?_
    exact ⟨n, rfl, RR.out⟩
set_option maxRecDepth 100000 in
set_option maxHeartbeats 4000000 in
theorem prod_Mul {wd : Int} (C : Fl wd) (a b : Int) (w : World) (ua : u64 a) (ub : u64 b) : Calls Tryz.prog 53 #[.int .i64 wd, .int .u64 a, .int .u64 b] w (Ans w wd (isN wd a ∨ isN wd b)) := by
  have UU := Aside0.mk (And.intro ua ub)
  clear ua ub
  have C := Aside0.mk C
  have KN := Aside0.mk C.out.wid
  all_goals
    go_enter Tryz.func53, Tryz.ntmps53
    go_wp2_with (first
      | (go_at_call 97; refine (known97 KN.out _).mono ?_; rintro e w0 ⟨rfl, rfl⟩)
      | (go_at_call_of 23 a; refine (C.out.O a _ UU.out.1).mono ?_
         rintro e w1 ⟨n1, k1, x1, s1, rfl, p1, hb⟩
         have P1 := Aside0.mk p1
         have H1 := Aside0.mk hb
         clear p1 hb)
      | (go_at_call_of 23 b; refine (C.out.O b _ UU.out.2).mono ?_
         rintro e w2 ⟨n2, k2, x2, s2, rfl, p2, hb⟩
         have P2 := Aside0.mk p2
         have H2 := Aside0.mk (below_then H1.out H1.out.size hb)
         clear p2 hb)
      | (go_at_call 98; refine (prod_parts C.out n1 n2 _ _ _ _ _ _ _ (parts_rng P1.out).1 (parts_rng P2.out).1 (parts_rng P1.out).2.2 (parts_rng P2.out).2.2 (parts_rng P1.out).2.1 (parts_rng P2.out).2.1).mono ?_
         intro e w3 ha
         obtain ⟨n, rfl, r⟩ := ans_of P1.out P2.out H2.out ha
         have RR := Aside0.mk r
         clear ha r)
      | fail)
    refine bodyPost_ret (v := .int .u64 n) (by simp [results, Tryz.results53, go_sem]) rfl ?_
    exact ⟨n, rfl, RR.out⟩
set_option maxRecDepth 100000 in
set_option maxHeartbeats 4000000 in
theorem sum_Sub {wd : Int} (C : Fl wd) (a b : Int) (w : World) (ua : u64 a) (ub : u64 b) : Calls Tryz.prog 52 #[.int .i64 wd, .int .u64 a, .int .u64 b] w (Ans w wd (isN wd a ∨ isN wd b)) := by
  have UU := Aside0.mk (And.intro ua ub)
  clear ua ub
  have C := Aside0.mk C
  have KN := Aside0.mk C.out.wid
  all_goals
    go_enter Tryz.func52, Tryz.ntmps52
    go_wp2_with (first
      | (go_at_call 95; refine (known95 KN.out _).mono ?_; rintro e w0 ⟨rfl, rfl⟩)
      | (go_at_call_of 23 b; refine (C.out.O b _ UU.out.2).mono ?_
         rintro e w1 ⟨n2, k2, x2, s2, rfl, p2, hb⟩
         have P2 := Aside0.mk p2
         have qm := heap_alloc_new w1 (.cells #[.bool (!n2), .int .i64 k2, .int .i64 x2, .int .u64 s2] 46)
         have QM := Aside0.mk qm
         have H1 := Aside0.mk (hb.alloc hb.size (.cells #[.bool (!n2), .int .i64 k2, .int .i64 x2, .int .u64 s2] 46))
         have c0 := (blk_cell qm 0).trans rfl
         have c1 := (blk_cell qm 1).trans rfl
         have c2 := (blk_cell qm 2).trans rfl
         have c3 := (blk_cell qm 3).trans rfl
         clear p2 hb qm)
      | fail)
    go_region_held (fun W => W.cell? ⟨w1.heap.size, 0, none⟩ = some (.bool (!n2)) ∧ W.cell? ⟨w1.heap.size, 1, none⟩ = some (.int .i64 k2) ∧ W.cell? ⟨w1.heap.size, 2, none⟩ = some (.int .i64 x2) ∧ W.cell? ⟨w1.heap.size, 3, none⟩ = some (.int .u64 s2)) (go_keep) (first
      | (go_at_call_of 23 a; refine (C.out.O a _ UU.out.1).mono ?_
         rintro e w2 ⟨n1, k1, x1, s1, rfl, p1, hb⟩
         have P1 := Aside0.mk p1
         have H2 := Aside0.mk (below_then (below_drew H1.out) (below_drew H1.out).size hb)
         have qm := (hb.block _ (blk_lt QM.out)).trans QM.out
         have QM2 := Aside0.mk qm
         clear p1 hb c0 c1 c2 c3
         have c0 := (blk_cell qm 0).trans rfl
         have c1 := (blk_cell qm 1).trans rfl
         have c2 := (blk_cell qm 2).trans rfl
         have c3 := (blk_cell qm 3).trans rfl
         clear qm)
      | (go_at_call 96; refine (sum_parts C.out (fun n1 n2 k1 k2 x1 x2 s1 s2 W u1 u2 i1 i2 => finite_calls C.out n1 n2 k1 k2 x1 x2 s1 s2 W u1 u2 i1 i2) n1 (!n2) _ _ _ _ _ _ _ (parts_rng P1.out).1 (parts_rng P2.out).1 (parts_rng P1.out).2.2 (parts_rng P2.out).2.2 (parts_rng P1.out).2.1 (parts_rng P2.out).2.1).mono ?_
         rintro e w3 ⟨n, rfl, g, c, hb⟩
         have qm := (hb.block _ (blk_lt QM2.out)).trans QM2.out
         have GG := Aside0.mk g
         have CC := Aside0.mk c
         have H3 := Aside0.mk (below_then H2.out H2.out.size hb)
         clear g c hb c0 c1 c2 c3
         have c0 := (blk_cell qm 0).trans rfl
         have c1 := (blk_cell qm 1).trans rfl
         have c2 := (blk_cell qm 2).trans rfl
         have c3 := (blk_cell qm 3).trans rfl
         clear qm)
      | fail)
    go_wp2
    refine bodyPost_ret (v := .int .u64 n) (by simp [results, Tryz.results52, go_sem]) rfl ?_
    exact ⟨n, rfl, GG.out, fun hc => CC.out (hc.imp P1.out.nan.2 P2.out.nan.2), H3.out⟩
end Go.Proofs.YticonaahlplbjaaGreatDoor.Tn
