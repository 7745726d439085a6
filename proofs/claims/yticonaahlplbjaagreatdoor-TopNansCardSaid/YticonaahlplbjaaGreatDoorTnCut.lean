/- whole.of, whole.made and its four uses. -/
import Derived.Test.YticonaahlplbjaaGreatDoorTnProd
namespace Go.Proofs.YticonaahlplbjaaGreatDoor.Tn
open Go.RowKit Go.Proofs.YticonaahlplbjaaGreatDoor.PTopNans Go.Proofs.YticonaahlplbjaaGreatDoorW.PrintWords Go.Proofs.YticonaahlplbjaaGreatDoorW.PrintLast Go.Proofs.YticonaahlplbjaaGreatDoorW.PrintMore
set_option linter.unusedVariables false
set_option linter.unusedSimpArgs false
theorem i64r_min {x : Int} (h : i64r x) : i64r (min x 128) := by unfold i64r at *; omega
/-- A number cut: some fields. -/
def CutP (w : World) (e : Ending) (w' : World) : Prop := ∃ b n h r, e = .returned (.agg #[.bool b, .int .u64 n, .bool h, .bool r]) ∧ u64 n ∧ Below w.heap.size w w'
set_option maxRecDepth 100000 in
set_option maxHeartbeats 4000000 in
theorem of_calls71 (neg : Bool) (k ex s : Int) (w : World) (us : u64 s) : Calls Tryz.prog 121 #[.agg #[.bool neg, .int .i64 k, .int .i64 ex, .int .u64 s]] w (CutP w) := by
  have q1 := heap_alloc_new w (.cells #[.bool neg, .int .i64 k, .int .i64 ex, .int .u64 s] 46)
  have q1 := (heap_alloc_old (.cells #[.bool false, .int .u64 0, .bool false, .bool false] 71) (blk_lt q1)).trans q1
  have q2 := heap_alloc_new (w.alloc (.cells #[.bool neg, .int .i64 k, .int .i64 ex, .int .u64 s] 46)) (.cells #[.bool false, .int .u64 0, .bool false, .bool false] 71)
  rw [World.size_alloc] at q2
  have hb := (below_alloc (Below.refl w.heap.size w) (.cells #[.bool neg, .int .i64 k, .int .i64 ex, .int .u64 s] 46)).alloc (by rw [World.size_alloc]; omega) (.cells #[.bool false, .int .u64 0, .bool false, .bool false] 71)
  obtain ⟨W0, hW0⟩ : ∃ W, W = (w.alloc (.cells #[.bool neg, .int .i64 k, .int .i64 ex, .int .u64 s] 46)).alloc (.cells #[.bool false, .int .u64 0, .bool false, .bool false] 71) := ⟨_, rfl⟩
  rw [← hW0] at q1 q2 hb
  have QA := Aside0.mk q1
  have QZ := Aside0.mk q2
  have HB := Aside0.mk hb
  have UU := Aside0.mk us
  have a0 : W0.cell? ⟨w.heap.size, 0, none⟩ = some (.bool neg) := (blk_cell q1 0).trans rfl
  have a1 : W0.cell? ⟨w.heap.size, 1, none⟩ = some (.int .i64 k) := (blk_cell q1 1).trans rfl
  have a2 : W0.cell? ⟨w.heap.size, 2, none⟩ = some (.int .i64 ex) := (blk_cell q1 2).trans rfl
  have a3 : W0.cell? ⟨w.heap.size, 3, none⟩ = some (.int .u64 s) := (blk_cell q1 3).trans rfl
  clear q1 q2 hb us
  have hW := Aside0.mk hW0
  clear hW0
  obtain ⟨z, hz, iz⟩ := i64_at (-ex)
  obtain ⟨m, hm⟩ : ∃ m, min z 128 = m := ⟨_, rfl⟩
  obtain ⟨n, hn, jn⟩ := i64_at (m - 1)
  have NN := Aside0.mk jn
  clear jn iz
  go_enter Tryz.func121, Tryz.ntmps121
  go_upto_region 1 with (fail)
  rw [← hW.out]
  clear hW
  go_upto_region 3 with (first
    | (go_at_call 124; (with_reducible refine (Of_calls s _).mono ?_)
       rintro e w1 ⟨rfl, hb⟩
       have QA1 := Aside0.mk ((hb.block _ (blk_lt QA.out)).trans QA.out)
       have QZ1 := Aside0.mk ((hb.block _ (blk_lt QZ.out)).trans QZ.out)
       have H1 := Aside0.mk (below_then HB.out HB.out.size hb)
       clear hb a0 a1 a2 a3)
    | (go_at_call 136; refine (Right_calls 0 s n _ u64_0 UU.out NN.out.1 NN.out.2).mono ?_
       rintro e w2 ⟨h1, l1, lost, rfl, v1, v2, hb⟩
       have qa := (hb.block _ (blk_lt QA1.out)).trans QA1.out
       have qz := (hb.block _ (blk_lt QZ1.out)).trans QZ1.out
       have QA2 := Aside0.mk ((heap_alloc_old (.cells #[.int .u64 h1, .int .u64 l1] 98) (blk_lt qa)).trans qa)
       have QZ2 := Aside0.mk ((heap_alloc_old (.cells #[.int .u64 h1, .int .u64 l1] 98) (blk_lt qz)).trans qz)
       have QD2 := Aside0.mk (heap_alloc_new w2 (.cells #[.int .u64 h1, .int .u64 l1] 98))
       have h3 := below_then H1.out H1.out.size hb
       have H2 := Aside0.mk (h3.alloc h3.size (.cells #[.int .u64 h1, .int .u64 l1] 98))
       have VV := Aside0.mk (And.intro v1 v2)
       clear hb qa qz h3 v1 v2)
    | fail)
  obtain ⟨W2, hW2⟩ : ∃ W, W = w2.alloc (.cells #[.int .u64 h1, .int .u64 l1] 98) := ⟨_, rfl⟩
  obtain ⟨p, hp⟩ : ∃ p, p = w2.heap.size := ⟨_, rfl⟩
  rw [← hp] at QD2 ⊢
  rw [← hW2] at QA2 QZ2 QD2 H2 ⊢
  clear hW2 hp
  have d0 : W2.cell? ⟨p, 0, none⟩ = some (.int .u64 h1) := (blk_cell QD2.out 0).trans rfl
  have d1 : W2.cell? ⟨p, 1, none⟩ = some (.int .u64 l1) := (blk_cell QD2.out 1).trans rfl
  go_upto_region 4 with (first
    | (go_at_call 136; refine (Right_calls h1 l1 1 _ VV.out.1 VV.out.2 (by decide) (by decide)).mono ?_
       rintro e w3 ⟨h2, l2, lost2, rfl, v1, v2, hb⟩
       have qa := (hb.block _ (blk_lt QA2.out)).trans QA2.out
       have qz := (hb.block _ (blk_lt QZ2.out)).trans QZ2.out
       have qd := (hb.block _ (blk_lt QD2.out)).trans QD2.out
       have QA3 := Aside0.mk ((heap_alloc_old (.cells #[.int .u64 h2, .int .u64 l2] 98) (blk_lt qa)).trans qa)
       have QZ3 := Aside0.mk ((heap_alloc_old (.cells #[.int .u64 h2, .int .u64 l2] 98) (blk_lt qz)).trans qz)
       have QD3 := Aside0.mk ((heap_alloc_old (.cells #[.int .u64 h2, .int .u64 l2] 98) (blk_lt qd)).trans qd)
       have QE3 := Aside0.mk (heap_alloc_new w3 (.cells #[.int .u64 h2, .int .u64 l2] 98))
       have h3 := below_then H2.out H2.out.size hb
       have H3 := Aside0.mk (h3.alloc h3.size (.cells #[.int .u64 h2, .int .u64 l2] 98))
       have VW := Aside0.mk (And.intro v1 v2)
       clear hb qa qz qd h3 v1 v2 d0 d1)
    | fail)
  obtain ⟨W3, hW3⟩ : ∃ W, W = w3.alloc (.cells #[.int .u64 h2, .int .u64 l2] 98) := ⟨_, rfl⟩
  obtain ⟨q, hq⟩ : ∃ q, q = w3.heap.size := ⟨_, rfl⟩
  rw [← hq] at QE3 ⊢
  rw [← hW3] at QA3 QZ3 QD3 QE3 H3 ⊢
  clear hW3 hq
  have a0 : W3.cell? ⟨w.heap.size, 0, none⟩ = some (.bool neg) := (blk_cell QA3.out 0).trans rfl
  have a1 : W3.cell? ⟨w.heap.size, 1, none⟩ = some (.int .i64 k) := (blk_cell QA3.out 1).trans rfl
  have a2 : W3.cell? ⟨w.heap.size, 2, none⟩ = some (.int .i64 ex) := (blk_cell QA3.out 2).trans rfl
  have a3 : W3.cell? ⟨w.heap.size, 3, none⟩ = some (.int .u64 s) := (blk_cell QA3.out 3).trans rfl
  have z0 : W3.cell? ⟨w.heap.size + 1, 0, none⟩ = some (.bool false) := (blk_cell QZ3.out 0).trans rfl
  have z1 : W3.cell? ⟨w.heap.size + 1, 1, none⟩ = some (.int .u64 0) := (blk_cell QZ3.out 1).trans rfl
  have z2 : W3.cell? ⟨w.heap.size + 1, 2, none⟩ = some (.bool false) := (blk_cell QZ3.out 2).trans rfl
  have z3 : W3.cell? ⟨w.heap.size + 1, 3, none⟩ = some (.bool false) := (blk_cell QZ3.out 3).trans rfl
  have f0 : W3.frozen? ⟨w.heap.size + 1, 0, none⟩ = false := blk_frozen QZ3.out 0
  have f1 : W3.frozen? ⟨w.heap.size + 1, 1, none⟩ = false := blk_frozen QZ3.out 1
  have f2 : W3.frozen? ⟨w.heap.size + 1, 2, none⟩ = false := blk_frozen QZ3.out 2
  have f3 : W3.frozen? ⟨w.heap.size + 1, 3, none⟩ = false := blk_frozen QZ3.out 3
  have d0 : W3.cell? ⟨p, 0, none⟩ = some (.int .u64 h1) := (blk_cell QD3.out 0).trans rfl
  have d1 : W3.cell? ⟨p, 1, none⟩ = some (.int .u64 l1) := (blk_cell QD3.out 1).trans rfl
  have e0 : W3.cell? ⟨q, 0, none⟩ = some (.int .u64 h2) := (blk_cell QE3.out 0).trans rfl
  have e1 : W3.cell? ⟨q, 1, none⟩ = some (.int .u64 l2) := (blk_cell QE3.out 1).trans rfl
  go_wp2
  have P := (blk_set (blk_set (blk_set (blk_set QZ3.out 0 (.bool neg)) 1 (.int .u64 l2)) 2 (.bool (bits .and .u64 l1 1 == 1))) 3 (.bool lost))
  have k0 := (blk_cell P 0).trans rfl
  have k1 := (blk_cell P 1).trans rfl
  have k2 := (blk_cell P 2).trans rfl
  have k3 := (blk_cell P 3).trans rfl
  clear P z0 z1 z2 z3 f0 f1 f2 f3
  refine bodyPost_ret (v := .agg #[.bool neg, .int .u64 l2, .bool (bits .and .u64 l1 1 == 1), .bool lost]) (by simp [results, Tryz.results121, go_sem, k0, k1, k2, k3]) rfl ?_
  exact ⟨_, _, _, _, rfl, VW.out.2, (bset (bset (bset (bset H3.out (by omega) 0 (.bool neg)) (by omega) 1 (.int .u64 l2)) (by omega) 2 (.bool (bits .and .u64 l1 1 == 1))) (by omega) 3 (.bool lost))⟩
end Go.Proofs.YticonaahlplbjaaGreatDoor.Tn
