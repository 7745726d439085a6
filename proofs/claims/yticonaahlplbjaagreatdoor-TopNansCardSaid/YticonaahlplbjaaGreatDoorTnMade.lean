/- whole.made and its four uses. -/
import Derived.Test.YticonaahlplbjaaGreatDoorTnCut
namespace Go.Proofs.YticonaahlplbjaaGreatDoor.Tn
open Go.RowKit Go.Proofs.YticonaahlplbjaaGreatDoor.PTopNans Go.Proofs.YticonaahlplbjaaGreatDoorW.PrintWords Go.Proofs.YticonaahlplbjaaGreatDoorW.PrintLast Go.Proofs.YticonaahlplbjaaGreatDoorW.PrintMore
set_option linter.unusedVariables false
set_option linter.unusedSimpArgs false

set_option maxRecDepth 100000 in
set_option maxHeartbeats 4000000 in
theorem away88 (b h r : Bool) (n : Int) (w : World) : Calls Tryz.prog 88 #[.agg #[.bool b, .int .u64 n, .bool h, .bool r]] w fun e w' => (∃ x, e = .returned (.bool x)) ∧ Below w.heap.size w w' := by
  have q0 := heap_alloc_new w (.cells #[.bool b, .int .u64 n, .bool h, .bool r] 71)
  have HB := Aside0.mk (below_alloc (Below.refl w.heap.size w) (.cells #[.bool b, .int .u64 n, .bool h, .bool r] 71))
  obtain ⟨W0, hW0⟩ : ∃ W, W = w.alloc (.cells #[.bool b, .int .u64 n, .bool h, .bool r] 71) := ⟨_, rfl⟩
  rw [← hW0] at q0 HB
  have c0 : W0.cell? ⟨w.heap.size, 0, none⟩ = some (.bool b) := (blk_cell q0 0).trans rfl
  have c1 : W0.cell? ⟨w.heap.size, 1, none⟩ = some (.int .u64 n) := (blk_cell q0 1).trans rfl
  have c2 : W0.cell? ⟨w.heap.size, 2, none⟩ = some (.bool h) := (blk_cell q0 2).trans rfl
  have c3 : W0.cell? ⟨w.heap.size, 3, none⟩ = some (.bool r) := (blk_cell q0 3).trans rfl
  have hW := Aside0.mk hW0
  clear q0 hW0
  cases h <;> cases r
  · go_enter Tryz.func88, Tryz.ntmps88
    go_upto_region 1 with (fail)
    rw [← hW.out]
    clear hW
    go_wp2
    refine bodyPost_ret (v := .bool (!b)) (by simp [results, Tryz.results88, go_sem]) rfl ?_
    exact ⟨⟨_, rfl⟩, HB.out⟩
  · go_enter Tryz.func88, Tryz.ntmps88
    go_upto_region 1 with (fail)
    rw [← hW.out]
    clear hW
    go_wp2
    refine bodyPost_ret (v := .bool (!b)) (by simp [results, Tryz.results88, go_sem]) rfl ?_
    exact ⟨⟨_, rfl⟩, HB.out⟩
  · go_enter Tryz.func88, Tryz.ntmps88
    go_upto_region 1 with (fail)
    rw [← hW.out]
    clear hW
    go_wp2
    refine bodyPost_ret (v := .bool (!b)) (by simp [results, Tryz.results88, go_sem]) rfl ?_
    exact ⟨⟨_, rfl⟩, HB.out⟩
  · go_enter Tryz.func88, Tryz.ntmps88
    go_upto_region 1 with (fail)
    rw [← hW.out]
    clear hW
    go_wp2
    refine bodyPost_ret (v := .bool (!b)) (by simp [results, Tryz.results88, go_sem]) rfl ?_
    exact ⟨⟨_, rfl⟩, HB.out⟩
set_option maxRecDepth 100000 in
set_option maxHeartbeats 4000000 in
theorem away89 (b h r : Bool) (n : Int) (w : World) : Calls Tryz.prog 89 #[.agg #[.bool b, .int .u64 n, .bool h, .bool r]] w fun e w' => (∃ x, e = .returned (.bool x)) ∧ Below w.heap.size w w' := by
  have q0 := heap_alloc_new w (.cells #[.bool b, .int .u64 n, .bool h, .bool r] 71)
  have HB := Aside0.mk (below_alloc (Below.refl w.heap.size w) (.cells #[.bool b, .int .u64 n, .bool h, .bool r] 71))
  obtain ⟨W0, hW0⟩ : ∃ W, W = w.alloc (.cells #[.bool b, .int .u64 n, .bool h, .bool r] 71) := ⟨_, rfl⟩
  rw [← hW0] at q0 HB
  have c0 : W0.cell? ⟨w.heap.size, 0, none⟩ = some (.bool b) := (blk_cell q0 0).trans rfl
  have c1 : W0.cell? ⟨w.heap.size, 1, none⟩ = some (.int .u64 n) := (blk_cell q0 1).trans rfl
  have c2 : W0.cell? ⟨w.heap.size, 2, none⟩ = some (.bool h) := (blk_cell q0 2).trans rfl
  have c3 : W0.cell? ⟨w.heap.size, 3, none⟩ = some (.bool r) := (blk_cell q0 3).trans rfl
  have hW := Aside0.mk hW0
  clear q0 hW0
  cases h <;> cases r
  · go_enter Tryz.func89, Tryz.ntmps89
    go_upto_region 1 with (fail)
    rw [← hW.out]
    clear hW
    go_wp2
    refine bodyPost_ret (v := .bool (b)) (by simp [results, Tryz.results89, go_sem]) rfl ?_
    exact ⟨⟨_, rfl⟩, HB.out⟩
  · go_enter Tryz.func89, Tryz.ntmps89
    go_upto_region 1 with (fail)
    rw [← hW.out]
    clear hW
    go_wp2
    refine bodyPost_ret (v := .bool (b)) (by simp [results, Tryz.results89, go_sem]) rfl ?_
    exact ⟨⟨_, rfl⟩, HB.out⟩
  · go_enter Tryz.func89, Tryz.ntmps89
    go_upto_region 1 with (fail)
    rw [← hW.out]
    clear hW
    go_wp2
    refine bodyPost_ret (v := .bool (b)) (by simp [results, Tryz.results89, go_sem]) rfl ?_
    exact ⟨⟨_, rfl⟩, HB.out⟩
  · go_enter Tryz.func89, Tryz.ntmps89
    go_upto_region 1 with (fail)
    rw [← hW.out]
    clear hW
    go_wp2
    refine bodyPost_ret (v := .bool (b)) (by simp [results, Tryz.results89, go_sem]) rfl ?_
    exact ⟨⟨_, rfl⟩, HB.out⟩
set_option maxRecDepth 100000 in
set_option maxHeartbeats 4000000 in
theorem away90 (b h r : Bool) (n : Int) (w : World) : Calls Tryz.prog 90 #[.agg #[.bool b, .int .u64 n, .bool h, .bool r]] w fun e w' => (∃ x, e = .returned (.bool x)) ∧ Below w.heap.size w w' := by
  have q0 := heap_alloc_new w (.cells #[.bool b, .int .u64 n, .bool h, .bool r] 71)
  have HB := Aside0.mk (below_alloc (Below.refl w.heap.size w) (.cells #[.bool b, .int .u64 n, .bool h, .bool r] 71))
  obtain ⟨W0, hW0⟩ : ∃ W, W = w.alloc (.cells #[.bool b, .int .u64 n, .bool h, .bool r] 71) := ⟨_, rfl⟩
  rw [← hW0] at q0 HB
  have c0 : W0.cell? ⟨w.heap.size, 0, none⟩ = some (.bool b) := (blk_cell q0 0).trans rfl
  have c1 : W0.cell? ⟨w.heap.size, 1, none⟩ = some (.int .u64 n) := (blk_cell q0 1).trans rfl
  have c2 : W0.cell? ⟨w.heap.size, 2, none⟩ = some (.bool h) := (blk_cell q0 2).trans rfl
  have c3 : W0.cell? ⟨w.heap.size, 3, none⟩ = some (.bool r) := (blk_cell q0 3).trans rfl
  have hW := Aside0.mk hW0
  clear q0 hW0
  cases h <;> cases r
  · go_enter Tryz.func90, Tryz.ntmps90
    go_upto_region 1 with (fail)
    rw [← hW.out]
    clear hW
    go_wp2
    refine bodyPost_ret (v := .bool (false)) (by simp [results, Tryz.results90, go_sem]) rfl ?_
    exact ⟨⟨_, rfl⟩, HB.out⟩
  · go_enter Tryz.func90, Tryz.ntmps90
    go_upto_region 1 with (fail)
    rw [← hW.out]
    clear hW
    go_wp2
    refine bodyPost_ret (v := .bool (false)) (by simp [results, Tryz.results90, go_sem]) rfl ?_
    exact ⟨⟨_, rfl⟩, HB.out⟩
  · go_enter Tryz.func90, Tryz.ntmps90
    go_upto_region 1 with (fail)
    rw [← hW.out]
    clear hW
    go_wp2
    refine bodyPost_ret (v := .bool (false)) (by simp [results, Tryz.results90, go_sem]) rfl ?_
    exact ⟨⟨_, rfl⟩, HB.out⟩
  · go_enter Tryz.func90, Tryz.ntmps90
    go_upto_region 1 with (fail)
    rw [← hW.out]
    clear hW
    go_wp2
    refine bodyPost_ret (v := .bool (false)) (by simp [results, Tryz.results90, go_sem]) rfl ?_
    exact ⟨⟨_, rfl⟩, HB.out⟩
set_option maxRecDepth 100000 in
set_option maxHeartbeats 4000000 in
theorem away91 (b h r : Bool) (n : Int) (w : World) : Calls Tryz.prog 91 #[.agg #[.bool b, .int .u64 n, .bool h, .bool r]] w fun e w' => (∃ x, e = .returned (.bool x)) ∧ Below w.heap.size w w' := by
  have q0 := heap_alloc_new w (.cells #[.bool b, .int .u64 n, .bool h, .bool r] 71)
  have HB := Aside0.mk (below_alloc (Below.refl w.heap.size w) (.cells #[.bool b, .int .u64 n, .bool h, .bool r] 71))
  obtain ⟨W0, hW0⟩ : ∃ W, W = w.alloc (.cells #[.bool b, .int .u64 n, .bool h, .bool r] 71) := ⟨_, rfl⟩
  rw [← hW0] at q0 HB
  have c0 : W0.cell? ⟨w.heap.size, 0, none⟩ = some (.bool b) := (blk_cell q0 0).trans rfl
  have c1 : W0.cell? ⟨w.heap.size, 1, none⟩ = some (.int .u64 n) := (blk_cell q0 1).trans rfl
  have c2 : W0.cell? ⟨w.heap.size, 2, none⟩ = some (.bool h) := (blk_cell q0 2).trans rfl
  have c3 : W0.cell? ⟨w.heap.size, 3, none⟩ = some (.bool r) := (blk_cell q0 3).trans rfl
  have hW := Aside0.mk hW0
  clear q0 hW0
  cases h <;> cases r
  · go_enter Tryz.func91, Tryz.ntmps91
    go_upto_region 1 with (fail)
    rw [← hW.out]
    clear hW
    go_wp2
    refine bodyPost_ret (v := .bool (false)) (by simp [results, Tryz.results91, go_sem]) rfl ?_
    exact ⟨⟨_, rfl⟩, HB.out⟩
  · go_enter Tryz.func91, Tryz.ntmps91
    go_upto_region 1 with (fail)
    rw [← hW.out]
    clear hW
    go_wp2
    refine bodyPost_ret (v := .bool (false)) (by simp [results, Tryz.results91, go_sem]) rfl ?_
    exact ⟨⟨_, rfl⟩, HB.out⟩
  · go_enter Tryz.func91, Tryz.ntmps91
    go_upto_region 1 with (fail)
    rw [← hW.out]
    clear hW
    go_wp2
    refine bodyPost_ret (v := .bool (bits .and .u64 n 1 == 1)) (by simp [results, Tryz.results91, go_sem]) rfl ?_
    exact ⟨⟨_, rfl⟩, HB.out⟩
  · go_enter Tryz.func91, Tryz.ntmps91
    go_upto_region 1 with (fail)
    rw [← hW.out]
    clear hW
    go_wp2
    refine bodyPost_ret (v := .bool (true)) (by simp [results, Tryz.results91, go_sem]) rfl ?_
    exact ⟨⟨_, rfl⟩, HB.out⟩
end Go.Proofs.YticonaahlplbjaaGreatDoor.Tn
