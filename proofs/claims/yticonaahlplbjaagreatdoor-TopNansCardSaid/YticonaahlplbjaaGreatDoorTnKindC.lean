/- numeric.Kind: turns, saturating ones, none. -/
import Derived.Test.YticonaahlplbjaaGreatDoorTnKindB
namespace Go.Proofs.YticonaahlplbjaaGreatDoor.Tn
open Go.RowKit Go.Proofs.YticonaahlplbjaaGreatDoor.PTopNans Go.Proofs.YticonaahlplbjaaGreatDoorW.PrintWords Go.Proofs.YticonaahlplbjaaGreatDoorW.PrintLast Go.Proofs.YticonaahlplbjaaGreatDoorW.PrintMore
set_option linter.unusedVariables false
set_option linter.unusedSimpArgs false
set_option maxRecDepth 100000 in
set_option maxHeartbeats 4000000 in
theorem Kind_g8 (op n wd : Int) (w : World) (Q : Int → Int → Prop) (TC : ∀ W, Calls Tryz.prog 22 #[.int .i64 n] W fun e w' => (∃ i o, e = .returned (.tuple #[.int .u8 i, .int .u8 o]) ∧ Q i o) ∧ w' = W) (FC : ∀ W, Calls Tryz.prog 10 #[.int .i64 op] W fun e w' => e = .returned (.agg #[.int .i64 8, .int .i64 n, .int .i64 wd]) ∧ Below W.heap.size W w') : Calls Tryz.prog 5 #[.int .i64 op] w (fun e w' => (∃ i o, e = .returned (.tuple #[.int .u8 i, .int .i64 1, .int .u8 o, .bool true]) ∧ Q i o) ∧ Below w.heap.size w w') := by
  have FC := Aside0.mk FC
  have TC := Aside0.mk TC
  go_enter Tryz.func5, Tryz.ntmps5
  go_upto_region 2 with (first
    | (go_at_call 10; (with_reducible refine (FC.out _).mono ?_)
       rintro e w1 ⟨rfl, hb⟩
       have HB := Aside0.mk (hb.alloc hb.size (.cells #[.int .i64 8, .int .i64 n, .int .i64 wd] 34))
       have QP := Aside0.mk (heap_alloc_new w1 (.cells #[.int .i64 8, .int .i64 n, .int .i64 wd] 34))
       clear hb)
    | fail)
  obtain ⟨W1, hW1⟩ : ∃ W, W = w1.alloc (.cells #[.int .i64 8, .int .i64 n, .int .i64 wd] 34) := ⟨_, rfl⟩
  obtain ⟨p, hp⟩ : ∃ p, p = w1.heap.size := ⟨_, rfl⟩
  rw [← hp] at QP ⊢
  rw [← hW1] at QP HB ⊢
  clear hW1 hp
  have c0 : W1.cell? ⟨p, 0, none⟩ = some (.int .i64 8) := (blk_cell QP.out 0).trans rfl
  have c1 : W1.cell? ⟨p, 1, none⟩ = some (.int .i64 n) := (blk_cell QP.out 1).trans rfl
  have c2 : W1.cell? ⟨p, 2, none⟩ = some (.int .i64 wd) := (blk_cell QP.out 2).trans rfl
  go_wp2_with (first
    | (go_at_call 22; (with_reducible refine (TC.out _).mono ?_)
       rintro e w' ⟨⟨i, o, rfl, h⟩, rfl⟩
       have QQ := Aside0.mk h
       clear h)
    | fail)
  all_goals
    skip
    refine bodyPost_ret (v := .tuple #[.int .u8 i, .int .i64 1, .int .u8 o, .bool true]) (by simp [results, Tryz.results5, go_sem]) rfl ?_
    exact ⟨⟨i, o, rfl, QQ.out⟩, HB.out⟩
set_option maxRecDepth 100000 in
set_option maxHeartbeats 4000000 in
theorem Kind_g9 (op n wd : Int) (w : World) (FC : ∀ W, Calls Tryz.prog 10 #[.int .i64 op] W fun e w' => e = .returned (.agg #[.int .i64 9, .int .i64 n, .int .i64 wd]) ∧ Below W.heap.size W w') : Calls Tryz.prog 5 #[.int .i64 op] w (KindP w) := by
  have FC := Aside0.mk FC
  go_enter Tryz.func5, Tryz.ntmps5
  go_upto_region 2 with (first
    | (go_at_call 10; (with_reducible refine (FC.out _).mono ?_)
       rintro e w1 ⟨rfl, hb⟩
       have HB := Aside0.mk (hb.alloc hb.size (.cells #[.int .i64 9, .int .i64 n, .int .i64 wd] 34))
       have QP := Aside0.mk (heap_alloc_new w1 (.cells #[.int .i64 9, .int .i64 n, .int .i64 wd] 34))
       clear hb)
    | fail)
  obtain ⟨W1, hW1⟩ : ∃ W, W = w1.alloc (.cells #[.int .i64 9, .int .i64 n, .int .i64 wd] 34) := ⟨_, rfl⟩
  obtain ⟨p, hp⟩ : ∃ p, p = w1.heap.size := ⟨_, rfl⟩
  rw [← hp] at QP ⊢
  rw [← hW1] at QP HB ⊢
  clear hW1 hp
  have c0 : W1.cell? ⟨p, 0, none⟩ = some (.int .i64 9) := (blk_cell QP.out 0).trans rfl
  have c1 : W1.cell? ⟨p, 1, none⟩ = some (.int .i64 n) := (blk_cell QP.out 1).trans rfl
  have c2 : W1.cell? ⟨p, 2, none⟩ = some (.int .i64 wd) := (blk_cell QP.out 2).trans rfl
  go_wp2
  go_region_held (fun W => W.cell? ⟨p, 0, none⟩ = some (.int .i64 9) ∧ W.cell? ⟨p, 1, none⟩ = some (.int .i64 n) ∧ W.cell? ⟨p, 2, none⟩ = some (.int .i64 wd)) (go_keep) (first
    | (go_at_call 21; refine (float_any _ _).mono ?_
       rintro e w' ⟨⟨f, rfl, hf⟩, rfl⟩
       clear hf)
    | (go_at_call 20; refine (integer_any _ _).mono ?_
       rintro e w' ⟨⟨i, rfl, hi⟩, rfl⟩
       have HI := Aside0.mk hi
       clear hi)
    | fail)
  all_goals
    go_wp2
    refine bodyPost_ret (v := .tuple #[.int .u8 f, .int .i64 1, .int .u8 i, .bool true]) (by simp [results, Tryz.results5, go_sem]) rfl ?_
    exact ⟨⟨_, _, _, _, rfl, .inr (notF_o HI.out)⟩, below_drew HB.out⟩
set_option maxRecDepth 100000 in
set_option maxHeartbeats 4000000 in
theorem Kind_g0 (op n wd : Int) (w : World) (FC : ∀ W, Calls Tryz.prog 10 #[.int .i64 op] W fun e w' => e = .returned (.agg #[.int .i64 0, .int .i64 n, .int .i64 wd]) ∧ Below W.heap.size W w') : Calls Tryz.prog 5 #[.int .i64 op] w (KindP w) := by
  have FC := Aside0.mk FC
  go_enter Tryz.func5, Tryz.ntmps5
  go_upto_region 2 with (first
    | (go_at_call 10; (with_reducible refine (FC.out _).mono ?_)
       rintro e w1 ⟨rfl, hb⟩
       have HB := Aside0.mk (hb.alloc hb.size (.cells #[.int .i64 0, .int .i64 n, .int .i64 wd] 34))
       have QP := Aside0.mk (heap_alloc_new w1 (.cells #[.int .i64 0, .int .i64 n, .int .i64 wd] 34))
       clear hb)
    | fail)
  obtain ⟨W1, hW1⟩ : ∃ W, W = w1.alloc (.cells #[.int .i64 0, .int .i64 n, .int .i64 wd] 34) := ⟨_, rfl⟩
  obtain ⟨p, hp⟩ : ∃ p, p = w1.heap.size := ⟨_, rfl⟩
  rw [← hp] at QP ⊢
  rw [← hW1] at QP HB ⊢
  clear hW1 hp
  have c0 : W1.cell? ⟨p, 0, none⟩ = some (.int .i64 0) := (blk_cell QP.out 0).trans rfl
  have c1 : W1.cell? ⟨p, 1, none⟩ = some (.int .i64 n) := (blk_cell QP.out 1).trans rfl
  have c2 : W1.cell? ⟨p, 2, none⟩ = some (.int .i64 wd) := (blk_cell QP.out 2).trans rfl
  all_goals
    go_wp2
    refine bodyPost_ret (v := .tuple #[.int .u8 0, .int .i64 0, .int .u8 0, .bool false]) (by simp [results, Tryz.results5, go_sem]) rfl ?_
    exact ⟨⟨_, _, _, _, rfl, .inl rfl⟩, HB.out⟩
end Go.Proofs.YticonaahlplbjaaGreatDoor.Tn
