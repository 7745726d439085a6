/- quotient.value. -/
import Derived.Test.YticonaahlplbjaaGreatDoorTnQuo
namespace Go.Proofs.YticonaahlplbjaaGreatDoor.Tn
open Go.RowKit Go.Proofs.YticonaahlplbjaaGreatDoor.PTopNans Go.Proofs.YticonaahlplbjaaGreatDoorW.PrintWords Go.Proofs.YticonaahlplbjaaGreatDoorW.PrintLast Go.Proofs.YticonaahlplbjaaGreatDoorW.PrintMore
set_option linter.unusedVariables false
set_option linter.unusedSimpArgs false
set_option maxRecDepth 100000 in
set_option maxHeartbeats 4000000 in
theorem value_calls {wd : Int} (C : Fl wd) (n1 n2 : Bool) (k1 k2 x1 x2 s1 s2 : Int) (w : World) (u1 : u64 s1) (u2 : u64 s2) : Calls Tryz.prog 130 #[.agg #[.bool n1, .int .i64 k1, .int .i64 x1, .int .u64 s1, .bool n2, .int .i64 k2, .int .i64 x2, .int .u64 s2], .int .i64 wd] w (GoodP w wd) := by
  have q0 := heap_alloc_new w (.cells #[.bool n1, .int .i64 k1, .int .i64 x1, .int .u64 s1, .bool n2, .int .i64 k2, .int .i64 x2, .int .u64 s2] 108)
  have Q0 := Aside0.mk q0
  have HB0 := Aside0.mk (below_alloc (Below.refl w.heap.size w) (.cells #[.bool n1, .int .i64 k1, .int .i64 x1, .int .u64 s1, .bool n2, .int .i64 k2, .int .i64 x2, .int .u64 s2] 108))
  have c0 : (w.alloc (.cells #[.bool n1, .int .i64 k1, .int .i64 x1, .int .u64 s1, .bool n2, .int .i64 k2, .int .i64 x2, .int .u64 s2] 108)).cell? ⟨w.heap.size, 0, none⟩ = some (.bool n1) := (blk_cell q0 0).trans rfl; have c1 : (w.alloc (.cells #[.bool n1, .int .i64 k1, .int .i64 x1, .int .u64 s1, .bool n2, .int .i64 k2, .int .i64 x2, .int .u64 s2] 108)).cell? ⟨w.heap.size, 1, none⟩ = some (.int .i64 k1) := (blk_cell q0 1).trans rfl; have c2 : (w.alloc (.cells #[.bool n1, .int .i64 k1, .int .i64 x1, .int .u64 s1, .bool n2, .int .i64 k2, .int .i64 x2, .int .u64 s2] 108)).cell? ⟨w.heap.size, 2, none⟩ = some (.int .i64 x1) := (blk_cell q0 2).trans rfl; have c3 : (w.alloc (.cells #[.bool n1, .int .i64 k1, .int .i64 x1, .int .u64 s1, .bool n2, .int .i64 k2, .int .i64 x2, .int .u64 s2] 108)).cell? ⟨w.heap.size, 3, none⟩ = some (.int .u64 s1) := (blk_cell q0 3).trans rfl; have c4 : (w.alloc (.cells #[.bool n1, .int .i64 k1, .int .i64 x1, .int .u64 s1, .bool n2, .int .i64 k2, .int .i64 x2, .int .u64 s2] 108)).cell? ⟨w.heap.size, 4, none⟩ = some (.bool n2) := (blk_cell q0 4).trans rfl; have c5 : (w.alloc (.cells #[.bool n1, .int .i64 k1, .int .i64 x1, .int .u64 s1, .bool n2, .int .i64 k2, .int .i64 x2, .int .u64 s2] 108)).cell? ⟨w.heap.size, 5, none⟩ = some (.int .i64 k2) := (blk_cell q0 5).trans rfl; have c6 : (w.alloc (.cells #[.bool n1, .int .i64 k1, .int .i64 x1, .int .u64 s1, .bool n2, .int .i64 k2, .int .i64 x2, .int .u64 s2] 108)).cell? ⟨w.heap.size, 6, none⟩ = some (.int .i64 x2) := (blk_cell q0 6).trans rfl; have c7 : (w.alloc (.cells #[.bool n1, .int .i64 k1, .int .i64 x1, .int .u64 s1, .bool n2, .int .i64 k2, .int .i64 x2, .int .u64 s2] 108)).cell? ⟨w.heap.size, 7, none⟩ = some (.int .u64 s2) := (blk_cell q0 7).trans rfl
  have C := Aside0.mk C
  have UU := Aside0.mk (And.intro u1 u2)
  clear q0 u1 u2
  go_enter Tryz.func130, Tryz.ntmps130
  go_upto_region 2 with (first
    | (go_at_call 148; (with_reducible refine (full_calls n1 k1 x1 s1 _ UU.out.1).mono ?_)
       rintro e w1 ⟨a, m, rfl, va, hb⟩
       have Q1 := Aside0.mk ((hb.block _ (blk_lt Q0.out)).trans Q0.out)
       have HB1 := Aside0.mk (below_then HB0.out HB0.out.size hb)
       clear c0 c1 c2 c3 c4 c5 c6 c7
       have VA := Aside0.mk va
       clear va
       have c0 : w1.cell? ⟨w.heap.size, 0, none⟩ = some (.bool n1) := (blk_cell Q1.out 0).trans rfl; have c1 : w1.cell? ⟨w.heap.size, 1, none⟩ = some (.int .i64 k1) := (blk_cell Q1.out 1).trans rfl; have c2 : w1.cell? ⟨w.heap.size, 2, none⟩ = some (.int .i64 x1) := (blk_cell Q1.out 2).trans rfl; have c3 : w1.cell? ⟨w.heap.size, 3, none⟩ = some (.int .u64 s1) := (blk_cell Q1.out 3).trans rfl; have c4 : w1.cell? ⟨w.heap.size, 4, none⟩ = some (.bool n2) := (blk_cell Q1.out 4).trans rfl; have c5 : w1.cell? ⟨w.heap.size, 5, none⟩ = some (.int .i64 k2) := (blk_cell Q1.out 5).trans rfl; have c6 : w1.cell? ⟨w.heap.size, 6, none⟩ = some (.int .i64 x2) := (blk_cell Q1.out 6).trans rfl; have c7 : w1.cell? ⟨w.heap.size, 7, none⟩ = some (.int .u64 s2) := (blk_cell Q1.out 7).trans rfl
       clear hb)
    | fail)
  go_upto_region 3 with (first
    | (go_at_call 148; (with_reducible refine (full_calls n2 k2 x2 s2 _ UU.out.2).mono ?_)
       rintro e w2 ⟨b, n, rfl, vb, hb⟩
       have Q2 := Aside0.mk ((hb.block _ (blk_lt Q1.out)).trans Q1.out)
       have HB2 := Aside0.mk (below_then HB1.out HB1.out.size hb)
       clear c0 c1 c2 c3 c4 c5 c6 c7
       have VB := Aside0.mk vb
       clear vb
       have c0 : w2.cell? ⟨w.heap.size, 0, none⟩ = some (.bool n1) := (blk_cell Q2.out 0).trans rfl; have c1 : w2.cell? ⟨w.heap.size, 1, none⟩ = some (.int .i64 k1) := (blk_cell Q2.out 1).trans rfl; have c2 : w2.cell? ⟨w.heap.size, 2, none⟩ = some (.int .i64 x1) := (blk_cell Q2.out 2).trans rfl; have c3 : w2.cell? ⟨w.heap.size, 3, none⟩ = some (.int .u64 s1) := (blk_cell Q2.out 3).trans rfl; have c4 : w2.cell? ⟨w.heap.size, 4, none⟩ = some (.bool n2) := (blk_cell Q2.out 4).trans rfl; have c5 : w2.cell? ⟨w.heap.size, 5, none⟩ = some (.int .i64 k2) := (blk_cell Q2.out 5).trans rfl; have c6 : w2.cell? ⟨w.heap.size, 6, none⟩ = some (.int .i64 x2) := (blk_cell Q2.out 6).trans rfl; have c7 : w2.cell? ⟨w.heap.size, 7, none⟩ = some (.int .u64 s2) := (blk_cell Q2.out 7).trans rfl
       clear hb)
    | fail)
  go_upto_region 4 with (first
    | (go_at_call 124; (with_reducible refine (Of_calls a _).mono ?_)
       rintro e w3 ⟨rfl, hb⟩
       have Q3 := Aside0.mk ((hb.block _ (blk_lt Q2.out)).trans Q2.out)
       have HB3 := Aside0.mk (below_then HB2.out HB2.out.size hb)
       clear c0 c1 c2 c3 c4 c5 c6 c7
       have c0 : w3.cell? ⟨w.heap.size, 0, none⟩ = some (.bool n1) := (blk_cell Q3.out 0).trans rfl; have c1 : w3.cell? ⟨w.heap.size, 1, none⟩ = some (.int .i64 k1) := (blk_cell Q3.out 1).trans rfl; have c2 : w3.cell? ⟨w.heap.size, 2, none⟩ = some (.int .i64 x1) := (blk_cell Q3.out 2).trans rfl; have c3 : w3.cell? ⟨w.heap.size, 3, none⟩ = some (.int .u64 s1) := (blk_cell Q3.out 3).trans rfl; have c4 : w3.cell? ⟨w.heap.size, 4, none⟩ = some (.bool n2) := (blk_cell Q3.out 4).trans rfl; have c5 : w3.cell? ⟨w.heap.size, 5, none⟩ = some (.int .i64 k2) := (blk_cell Q3.out 5).trans rfl; have c6 : w3.cell? ⟨w.heap.size, 6, none⟩ = some (.int .i64 x2) := (blk_cell Q3.out 6).trans rfl; have c7 : w3.cell? ⟨w.heap.size, 7, none⟩ = some (.int .u64 s2) := (blk_cell Q3.out 7).trans rfl
       clear hb)
    | (go_at_call 140; (with_reducible refine (Left_calls 0 a 64 _ u64_0 VA.out (by decide) (by decide)).mono ?_)
       rintro e w4 ⟨lh, ll, rfl, vh, vl, hb⟩
       have Q4 := Aside0.mk ((hb.block _ (blk_lt Q3.out)).trans Q3.out)
       have HB4 := Aside0.mk (below_then HB3.out HB3.out.size hb)
       clear c0 c1 c2 c3 c4 c5 c6 c7
       have VL := Aside0.mk (And.intro vh vl)
       clear vh vl
       have c0 : w4.cell? ⟨w.heap.size, 0, none⟩ = some (.bool n1) := (blk_cell Q4.out 0).trans rfl; have c1 : w4.cell? ⟨w.heap.size, 1, none⟩ = some (.int .i64 k1) := (blk_cell Q4.out 1).trans rfl; have c2 : w4.cell? ⟨w.heap.size, 2, none⟩ = some (.int .i64 x1) := (blk_cell Q4.out 2).trans rfl; have c3 : w4.cell? ⟨w.heap.size, 3, none⟩ = some (.int .u64 s1) := (blk_cell Q4.out 3).trans rfl; have c4 : w4.cell? ⟨w.heap.size, 4, none⟩ = some (.bool n2) := (blk_cell Q4.out 4).trans rfl; have c5 : w4.cell? ⟨w.heap.size, 5, none⟩ = some (.int .i64 k2) := (blk_cell Q4.out 5).trans rfl; have c6 : w4.cell? ⟨w.heap.size, 6, none⟩ = some (.int .i64 x2) := (blk_cell Q4.out 6).trans rfl; have c7 : w4.cell? ⟨w.heap.size, 7, none⟩ = some (.int .u64 s2) := (blk_cell Q4.out 7).trans rfl
       clear hb)
    | (go_at_call 149; (with_reducible refine (Div_calls lh ll b _ VL.out.1 VL.out.2 VB.out).mono ?_)
       rintro e w5 ⟨qh, ql, r, er, rfl, v1, v2, v3, hb⟩
       have q5 := (hb.block _ (blk_lt Q4.out)).trans Q4.out
       have Q5 := Aside0.mk ((heap_alloc_old (.cells #[.int .u64 qh, .int .u64 ql] 98) (blk_lt q5)).trans q5)
       have d5 := heap_alloc_new w5 (.cells #[.int .u64 qh, .int .u64 ql] 98)
       have h5 := below_then HB4.out HB4.out.size hb
       have HB5 := Aside0.mk (h5.alloc h5.size (.cells #[.int .u64 qh, .int .u64 ql] 98))
       have VQ := Aside0.mk (And.intro v1 v2)
       clear c0 c1 c2 c3 c4 c5 c6 c7
       have c0 : (w5.alloc (.cells #[.int .u64 qh, .int .u64 ql] 98)).cell? ⟨w.heap.size, 0, none⟩ = some (.bool n1) := (blk_cell Q5.out 0).trans rfl; have c1 : (w5.alloc (.cells #[.int .u64 qh, .int .u64 ql] 98)).cell? ⟨w.heap.size, 1, none⟩ = some (.int .i64 k1) := (blk_cell Q5.out 1).trans rfl; have c2 : (w5.alloc (.cells #[.int .u64 qh, .int .u64 ql] 98)).cell? ⟨w.heap.size, 2, none⟩ = some (.int .i64 x1) := (blk_cell Q5.out 2).trans rfl; have c3 : (w5.alloc (.cells #[.int .u64 qh, .int .u64 ql] 98)).cell? ⟨w.heap.size, 3, none⟩ = some (.int .u64 s1) := (blk_cell Q5.out 3).trans rfl; have c4 : (w5.alloc (.cells #[.int .u64 qh, .int .u64 ql] 98)).cell? ⟨w.heap.size, 4, none⟩ = some (.bool n2) := (blk_cell Q5.out 4).trans rfl; have c5 : (w5.alloc (.cells #[.int .u64 qh, .int .u64 ql] 98)).cell? ⟨w.heap.size, 5, none⟩ = some (.int .i64 k2) := (blk_cell Q5.out 5).trans rfl; have c6 : (w5.alloc (.cells #[.int .u64 qh, .int .u64 ql] 98)).cell? ⟨w.heap.size, 6, none⟩ = some (.int .i64 x2) := (blk_cell Q5.out 6).trans rfl; have c7 : (w5.alloc (.cells #[.int .u64 qh, .int .u64 ql] 98)).cell? ⟨w.heap.size, 7, none⟩ = some (.int .u64 s2) := (blk_cell Q5.out 7).trans rfl
       have d0 : (w5.alloc (.cells #[.int .u64 qh, .int .u64 ql] 98)).cell? ⟨w5.heap.size, 0, none⟩ = some (.int .u64 qh) := (blk_cell d5 0).trans rfl
       have d1 : (w5.alloc (.cells #[.int .u64 qh, .int .u64 ql] 98)).cell? ⟨w5.heap.size, 1, none⟩ = some (.int .u64 ql) := (blk_cell d5 1).trans rfl
       clear hb q5 d5 h5 v1 v2 v3)
    | fail)
  go_wp2_with (first
    | (go_at_call 123; refine (C.out.P _ _ _ _ _ _ VQ.out.1 VQ.out.2 (i64r_any _)).mono ?_
       rintro e w6 ⟨n, rfl, gn, hb⟩
       have GN := Aside0.mk gn
       have HB6 := Aside0.mk (below_then HB5.out HB5.out.size hb)
       clear gn hb)
    | fail)
  refine bodyPost_ret (v := .int .u64 n) (by simp [results, Tryz.results130, go_sem]) rfl ?_
  exact ⟨n, rfl, GN.out, HB6.out⟩
end Go.Proofs.YticonaahlplbjaaGreatDoor.Tn
