/- numeric.Kind. -/
import Derived.Test.YticonaahlplbjaaGreatDoorTnTurned
namespace Go.Proofs.YticonaahlplbjaaGreatDoor.Tn
open Go.RowKit Go.Proofs.YticonaahlplbjaaGreatDoor.PTopNans Go.Proofs.YticonaahlplbjaaGreatDoorW.PrintWords Go.Proofs.YticonaahlplbjaaGreatDoorW.PrintLast Go.Proofs.YticonaahlplbjaaGreatDoorW.PrintMore
set_option linter.unusedVariables false
set_option linter.unusedSimpArgs false
theorem integer_ex (wd : Int) : ∃ r, (r = 126 ∨ r = 127) ∧ ∀ W, Calls Tryz.prog 20 #[.int .i64 wd] W fun e w' => e = .returned (.int .u8 r) ∧ w' = W := by
  by_cases h : wd = 32
  · refine ⟨127, .inr rfl, fun W => (integer_calls wd W).mono ?_⟩
    rintro e w' ⟨⟨r, rfl, h1, h2⟩, rfl⟩
    rw [h1 h]
    exact ⟨rfl, rfl⟩
  · refine ⟨126, .inl rfl, fun W => (integer_calls wd W).mono ?_⟩
    rintro e w' ⟨⟨r, rfl, h1, h2⟩, rfl⟩
    rw [h2 h]
    exact ⟨rfl, rfl⟩
theorem float_ex (wd : Int) : ∃ r, (r = 124 ∨ r = 125) ∧ (wd = 32 → r = 125) ∧ (wd ≠ 32 → r = 124) ∧ ∀ W, Calls Tryz.prog 21 #[.int .i64 wd] W fun e w' => e = .returned (.int .u8 r) ∧ w' = W := by
  by_cases h : wd = 32
  · refine ⟨125, .inr rfl, fun _ => rfl, fun k => absurd h k, fun W => (float_calls wd W).mono ?_⟩
    rintro e w' ⟨⟨r, rfl, h1, h2⟩, rfl⟩
    rw [h1 h]
    exact ⟨rfl, rfl⟩
  · refine ⟨124, .inl rfl, fun k => absurd k h, fun _ => rfl, fun W => (float_calls wd W).mono ?_⟩
    rintro e w' ⟨⟨r, rfl, h1, h2⟩, rfl⟩
    rw [h2 h]
    exact ⟨rfl, rfl⟩
/-- What numeric.Kind answers where not both types are of floats. -/
def KindP (w : World) (e : Ending) (w' : World) : Prop := (∃ i n o ok, e = .returned (.tuple #[.int .u8 i, .int .i64 n, .int .u8 o, .bool ok]) ∧ (ok = false ∨ NotF i o)) ∧ Below w.heap.size w w'
set_option maxRecDepth 100000 in
set_option maxHeartbeats 4000000 in
theorem Kind_g1 (op n wd : Int) (w : World) (FC : ∀ W, Calls Tryz.prog 10 #[.int .i64 op] W fun e w' => e = .returned (.agg #[.int .i64 1, .int .i64 n, .int .i64 wd]) ∧ Below W.heap.size W w') : Calls Tryz.prog 5 #[.int .i64 op] w (KindP w) := by
  have FC := Aside0.mk FC
  obtain ⟨i, hi⟩ := integer_ex wd
  have IC := Aside0.mk hi
  clear hi
  go_enter Tryz.func5, Tryz.ntmps5
  go_upto_region 2 with (first
    | (go_at_call 10; (with_reducible refine (FC.out _).mono ?_)
       rintro e w1 ⟨rfl, hb⟩
       have HB := Aside0.mk (hb.alloc hb.size (.cells #[.int .i64 1, .int .i64 n, .int .i64 wd] 34))
       have QP := Aside0.mk (heap_alloc_new w1 (.cells #[.int .i64 1, .int .i64 n, .int .i64 wd] 34))
       clear hb)
    | fail)
  obtain ⟨W1, hW1⟩ : ∃ W, W = w1.alloc (.cells #[.int .i64 1, .int .i64 n, .int .i64 wd] 34) := ⟨_, rfl⟩
  obtain ⟨p, hp⟩ : ∃ p, p = w1.heap.size := ⟨_, rfl⟩
  rw [← hp] at QP ⊢
  rw [← hW1] at QP HB ⊢
  clear hW1 hp
  have c0 : W1.cell? ⟨p, 0, none⟩ = some (.int .i64 1) := (blk_cell QP.out 0).trans rfl
  have c1 : W1.cell? ⟨p, 1, none⟩ = some (.int .i64 n) := (blk_cell QP.out 1).trans rfl
  have c2 : W1.cell? ⟨p, 2, none⟩ = some (.int .i64 wd) := (blk_cell QP.out 2).trans rfl
  go_wp2_with (first
    | (go_at_call 20; (with_reducible refine (IC.out.2 _).mono ?_); rintro e w' ⟨rfl, rfl⟩)
    | fail)
  all_goals
    skip
    refine bodyPost_ret (v := .tuple #[.int .u8 i, .int .i64 1, .int .u8 127, .bool true]) (by simp [results, Tryz.results5, go_sem]) rfl ?_
    exact ⟨⟨_, _, _, _, rfl, .inr (notF_o (.inr rfl))⟩, HB.out⟩
set_option maxRecDepth 100000 in
set_option maxHeartbeats 4000000 in
theorem Kind_g2 (op n wd : Int) (w : World) (FC : ∀ W, Calls Tryz.prog 10 #[.int .i64 op] W fun e w' => e = .returned (.agg #[.int .i64 2, .int .i64 n, .int .i64 wd]) ∧ Below W.heap.size W w') : Calls Tryz.prog 5 #[.int .i64 op] w (KindP w) := by
  have FC := Aside0.mk FC
  obtain ⟨i, hi⟩ := integer_ex wd
  have IC := Aside0.mk hi
  clear hi
  go_enter Tryz.func5, Tryz.ntmps5
  go_upto_region 2 with (first
    | (go_at_call 10; (with_reducible refine (FC.out _).mono ?_)
       rintro e w1 ⟨rfl, hb⟩
       have HB := Aside0.mk (hb.alloc hb.size (.cells #[.int .i64 2, .int .i64 n, .int .i64 wd] 34))
       have QP := Aside0.mk (heap_alloc_new w1 (.cells #[.int .i64 2, .int .i64 n, .int .i64 wd] 34))
       clear hb)
    | fail)
  obtain ⟨W1, hW1⟩ : ∃ W, W = w1.alloc (.cells #[.int .i64 2, .int .i64 n, .int .i64 wd] 34) := ⟨_, rfl⟩
  obtain ⟨p, hp⟩ : ∃ p, p = w1.heap.size := ⟨_, rfl⟩
  rw [← hp] at QP ⊢
  rw [← hW1] at QP HB ⊢
  clear hW1 hp
  have c0 : W1.cell? ⟨p, 0, none⟩ = some (.int .i64 2) := (blk_cell QP.out 0).trans rfl
  have c1 : W1.cell? ⟨p, 1, none⟩ = some (.int .i64 n) := (blk_cell QP.out 1).trans rfl
  have c2 : W1.cell? ⟨p, 2, none⟩ = some (.int .i64 wd) := (blk_cell QP.out 2).trans rfl
  go_wp2_with (first
    | (go_at_call 20; (with_reducible refine (IC.out.2 _).mono ?_); rintro e w' ⟨rfl, rfl⟩)
    | fail)
  all_goals
    skip
    refine bodyPost_ret (v := .tuple #[.int .u8 i, .int .i64 2, .int .u8 127, .bool true]) (by simp [results, Tryz.results5, go_sem]) rfl ?_
    exact ⟨⟨_, _, _, _, rfl, .inr (notF_o (.inr rfl))⟩, HB.out⟩
set_option maxRecDepth 100000 in
set_option maxHeartbeats 4000000 in
theorem Kind_g3 (op n wd : Int) (w : World) (FC : ∀ W, Calls Tryz.prog 10 #[.int .i64 op] W fun e w' => e = .returned (.agg #[.int .i64 3, .int .i64 n, .int .i64 wd]) ∧ Below W.heap.size W w') : Calls Tryz.prog 5 #[.int .i64 op] w (KindP w) := by
  have FC := Aside0.mk FC
  obtain ⟨f, hf⟩ := float_ex wd
  have FL := Aside0.mk hf
  clear hf
  go_enter Tryz.func5, Tryz.ntmps5
  go_upto_region 2 with (first
    | (go_at_call 10; (with_reducible refine (FC.out _).mono ?_)
       rintro e w1 ⟨rfl, hb⟩
       have HB := Aside0.mk (hb.alloc hb.size (.cells #[.int .i64 3, .int .i64 n, .int .i64 wd] 34))
       have QP := Aside0.mk (heap_alloc_new w1 (.cells #[.int .i64 3, .int .i64 n, .int .i64 wd] 34))
       clear hb)
    | fail)
  obtain ⟨W1, hW1⟩ : ∃ W, W = w1.alloc (.cells #[.int .i64 3, .int .i64 n, .int .i64 wd] 34) := ⟨_, rfl⟩
  obtain ⟨p, hp⟩ : ∃ p, p = w1.heap.size := ⟨_, rfl⟩
  rw [← hp] at QP ⊢
  rw [← hW1] at QP HB ⊢
  clear hW1 hp
  have c0 : W1.cell? ⟨p, 0, none⟩ = some (.int .i64 3) := (blk_cell QP.out 0).trans rfl
  have c1 : W1.cell? ⟨p, 1, none⟩ = some (.int .i64 n) := (blk_cell QP.out 1).trans rfl
  have c2 : W1.cell? ⟨p, 2, none⟩ = some (.int .i64 wd) := (blk_cell QP.out 2).trans rfl
  go_wp2_with (first
    | (go_at_call 21; (with_reducible refine (FL.out.2.2.2 _).mono ?_); rintro e w' ⟨rfl, rfl⟩)
    | fail)
  all_goals
    skip
    refine bodyPost_ret (v := .tuple #[.int .u8 f, .int .i64 2, .int .u8 127, .bool true]) (by simp [results, Tryz.results5, go_sem]) rfl ?_
    exact ⟨⟨_, _, _, _, rfl, .inr (notF_o (.inr rfl))⟩, HB.out⟩
set_option maxRecDepth 100000 in
set_option maxHeartbeats 4000000 in
theorem Kind_g4 (op n wd : Int) (w : World) (FC : ∀ W, Calls Tryz.prog 10 #[.int .i64 op] W fun e w' => e = .returned (.agg #[.int .i64 4, .int .i64 n, .int .i64 wd]) ∧ Below W.heap.size W w') : Calls Tryz.prog 5 #[.int .i64 op] w (KindP w) := by
  have FC := Aside0.mk FC
  obtain ⟨i, hi⟩ := integer_ex wd
  have IC := Aside0.mk hi
  clear hi
  go_enter Tryz.func5, Tryz.ntmps5
  go_upto_region 2 with (first
    | (go_at_call 10; (with_reducible refine (FC.out _).mono ?_)
       rintro e w1 ⟨rfl, hb⟩
       have HB := Aside0.mk (hb.alloc hb.size (.cells #[.int .i64 4, .int .i64 n, .int .i64 wd] 34))
       have QP := Aside0.mk (heap_alloc_new w1 (.cells #[.int .i64 4, .int .i64 n, .int .i64 wd] 34))
       clear hb)
    | fail)
  obtain ⟨W1, hW1⟩ : ∃ W, W = w1.alloc (.cells #[.int .i64 4, .int .i64 n, .int .i64 wd] 34) := ⟨_, rfl⟩
  obtain ⟨p, hp⟩ : ∃ p, p = w1.heap.size := ⟨_, rfl⟩
  rw [← hp] at QP ⊢
  rw [← hW1] at QP HB ⊢
  clear hW1 hp
  have c0 : W1.cell? ⟨p, 0, none⟩ = some (.int .i64 4) := (blk_cell QP.out 0).trans rfl
  have c1 : W1.cell? ⟨p, 1, none⟩ = some (.int .i64 n) := (blk_cell QP.out 1).trans rfl
  have c2 : W1.cell? ⟨p, 2, none⟩ = some (.int .i64 wd) := (blk_cell QP.out 2).trans rfl
  go_wp2
  go_region_held (fun W => W.cell? ⟨p, 0, none⟩ = some (.int .i64 4) ∧ W.cell? ⟨p, 1, none⟩ = some (.int .i64 n) ∧ W.cell? ⟨p, 2, none⟩ = some (.int .i64 wd)) (go_keep) (first
    | (go_at_call 20; (with_reducible refine (IC.out.2 _).mono ?_); rintro e w' ⟨rfl, rfl⟩)
    | fail)
  all_goals
    go_wp2
    refine bodyPost_ret (v := .tuple #[.int .u8 i, .int .i64 1, .int .u8 i, .bool true]) (by simp [results, Tryz.results5, go_sem]) rfl ?_
    exact ⟨⟨_, _, _, _, rfl, .inr (notF_o IC.out.1)⟩, below_drew HB.out⟩
set_option maxRecDepth 100000 in
set_option maxHeartbeats 4000000 in
theorem Kind_g5 (op n wd : Int) (w : World) (FC : ∀ W, Calls Tryz.prog 10 #[.int .i64 op] W fun e w' => e = .returned (.agg #[.int .i64 5, .int .i64 n, .int .i64 wd]) ∧ Below W.heap.size W w') : Calls Tryz.prog 5 #[.int .i64 op] w (KindP w) := by
  have FC := Aside0.mk FC
  obtain ⟨i, hi⟩ := integer_ex wd
  have IC := Aside0.mk hi
  clear hi
  go_enter Tryz.func5, Tryz.ntmps5
  go_upto_region 2 with (first
    | (go_at_call 10; (with_reducible refine (FC.out _).mono ?_)
       rintro e w1 ⟨rfl, hb⟩
       have HB := Aside0.mk (hb.alloc hb.size (.cells #[.int .i64 5, .int .i64 n, .int .i64 wd] 34))
       have QP := Aside0.mk (heap_alloc_new w1 (.cells #[.int .i64 5, .int .i64 n, .int .i64 wd] 34))
       clear hb)
    | fail)
  obtain ⟨W1, hW1⟩ : ∃ W, W = w1.alloc (.cells #[.int .i64 5, .int .i64 n, .int .i64 wd] 34) := ⟨_, rfl⟩
  obtain ⟨p, hp⟩ : ∃ p, p = w1.heap.size := ⟨_, rfl⟩
  rw [← hp] at QP ⊢
  rw [← hW1] at QP HB ⊢
  clear hW1 hp
  have c0 : W1.cell? ⟨p, 0, none⟩ = some (.int .i64 5) := (blk_cell QP.out 0).trans rfl
  have c1 : W1.cell? ⟨p, 1, none⟩ = some (.int .i64 n) := (blk_cell QP.out 1).trans rfl
  have c2 : W1.cell? ⟨p, 2, none⟩ = some (.int .i64 wd) := (blk_cell QP.out 2).trans rfl
  go_wp2
  go_region_held (fun W => W.cell? ⟨p, 0, none⟩ = some (.int .i64 5) ∧ W.cell? ⟨p, 1, none⟩ = some (.int .i64 n) ∧ W.cell? ⟨p, 2, none⟩ = some (.int .i64 wd)) (go_keep) (first
    | (go_at_call 20; (with_reducible refine (IC.out.2 _).mono ?_); rintro e w' ⟨rfl, rfl⟩)
    | fail)
  all_goals
    go_wp2
    refine bodyPost_ret (v := .tuple #[.int .u8 i, .int .i64 2, .int .u8 i, .bool true]) (by simp [results, Tryz.results5, go_sem]) rfl ?_
    exact ⟨⟨_, _, _, _, rfl, .inr (notF_o IC.out.1)⟩, below_drew HB.out⟩
set_option maxRecDepth 100000 in
set_option maxHeartbeats 4000000 in
theorem Kind_g6 (op n wd : Int) (w : World) (FC : ∀ W, Calls Tryz.prog 10 #[.int .i64 op] W fun e w' => e = .returned (.agg #[.int .i64 6, .int .i64 n, .int .i64 wd]) ∧ Below W.heap.size W w') : Calls Tryz.prog 5 #[.int .i64 op] w (fun e w' => ∃ f, e = .returned (.tuple #[.int .u8 f, .int .i64 1, .int .u8 f, .bool true]) ∧ (wd = 32 → f = 125) ∧ (wd ≠ 32 → f = 124) ∧ Below w.heap.size w w') := by
  have FC := Aside0.mk FC
  obtain ⟨f, hf⟩ := float_ex wd
  have FL := Aside0.mk hf
  clear hf
  go_enter Tryz.func5, Tryz.ntmps5
  go_upto_region 2 with (first
    | (go_at_call 10; (with_reducible refine (FC.out _).mono ?_)
       rintro e w1 ⟨rfl, hb⟩
       have HB := Aside0.mk (hb.alloc hb.size (.cells #[.int .i64 6, .int .i64 n, .int .i64 wd] 34))
       have QP := Aside0.mk (heap_alloc_new w1 (.cells #[.int .i64 6, .int .i64 n, .int .i64 wd] 34))
       clear hb)
    | fail)
  obtain ⟨W1, hW1⟩ : ∃ W, W = w1.alloc (.cells #[.int .i64 6, .int .i64 n, .int .i64 wd] 34) := ⟨_, rfl⟩
  obtain ⟨p, hp⟩ : ∃ p, p = w1.heap.size := ⟨_, rfl⟩
  rw [← hp] at QP ⊢
  rw [← hW1] at QP HB ⊢
  clear hW1 hp
  have c0 : W1.cell? ⟨p, 0, none⟩ = some (.int .i64 6) := (blk_cell QP.out 0).trans rfl
  have c1 : W1.cell? ⟨p, 1, none⟩ = some (.int .i64 n) := (blk_cell QP.out 1).trans rfl
  have c2 : W1.cell? ⟨p, 2, none⟩ = some (.int .i64 wd) := (blk_cell QP.out 2).trans rfl
  go_wp2
  go_region_held (fun W => W.cell? ⟨p, 0, none⟩ = some (.int .i64 6) ∧ W.cell? ⟨p, 1, none⟩ = some (.int .i64 n) ∧ W.cell? ⟨p, 2, none⟩ = some (.int .i64 wd)) (go_keep) (first
    | (go_at_call 21; (with_reducible refine (FL.out.2.2.2 _).mono ?_); rintro e w' ⟨rfl, rfl⟩)
    | fail)
  all_goals
    go_wp2
    refine bodyPost_ret (v := .tuple #[.int .u8 f, .int .i64 1, .int .u8 f, .bool true]) (by simp [results, Tryz.results5, go_sem]) rfl ?_
    exact ⟨f, rfl, FL.out.2.1, FL.out.2.2.1, below_drew HB.out⟩
set_option maxRecDepth 100000 in
set_option maxHeartbeats 4000000 in
theorem Kind_g7 (op n wd : Int) (w : World) (FC : ∀ W, Calls Tryz.prog 10 #[.int .i64 op] W fun e w' => e = .returned (.agg #[.int .i64 7, .int .i64 n, .int .i64 wd]) ∧ Below W.heap.size W w') : Calls Tryz.prog 5 #[.int .i64 op] w (fun e w' => ∃ f, e = .returned (.tuple #[.int .u8 f, .int .i64 2, .int .u8 f, .bool true]) ∧ (wd = 32 → f = 125) ∧ (wd ≠ 32 → f = 124) ∧ Below w.heap.size w w') := by
  have FC := Aside0.mk FC
  obtain ⟨f, hf⟩ := float_ex wd
  have FL := Aside0.mk hf
  clear hf
  go_enter Tryz.func5, Tryz.ntmps5
  go_upto_region 2 with (first
    | (go_at_call 10; (with_reducible refine (FC.out _).mono ?_)
       rintro e w1 ⟨rfl, hb⟩
       have HB := Aside0.mk (hb.alloc hb.size (.cells #[.int .i64 7, .int .i64 n, .int .i64 wd] 34))
       have QP := Aside0.mk (heap_alloc_new w1 (.cells #[.int .i64 7, .int .i64 n, .int .i64 wd] 34))
       clear hb)
    | fail)
  obtain ⟨W1, hW1⟩ : ∃ W, W = w1.alloc (.cells #[.int .i64 7, .int .i64 n, .int .i64 wd] 34) := ⟨_, rfl⟩
  obtain ⟨p, hp⟩ : ∃ p, p = w1.heap.size := ⟨_, rfl⟩
  rw [← hp] at QP ⊢
  rw [← hW1] at QP HB ⊢
  clear hW1 hp
  have c0 : W1.cell? ⟨p, 0, none⟩ = some (.int .i64 7) := (blk_cell QP.out 0).trans rfl
  have c1 : W1.cell? ⟨p, 1, none⟩ = some (.int .i64 n) := (blk_cell QP.out 1).trans rfl
  have c2 : W1.cell? ⟨p, 2, none⟩ = some (.int .i64 wd) := (blk_cell QP.out 2).trans rfl
  go_wp2
  go_region_held (fun W => W.cell? ⟨p, 0, none⟩ = some (.int .i64 7) ∧ W.cell? ⟨p, 1, none⟩ = some (.int .i64 n) ∧ W.cell? ⟨p, 2, none⟩ = some (.int .i64 wd)) (go_keep) (first
    | (go_at_call 21; (with_reducible refine (FL.out.2.2.2 _).mono ?_); rintro e w' ⟨rfl, rfl⟩)
    | fail)
  all_goals
    go_wp2
    refine bodyPost_ret (v := .tuple #[.int .u8 f, .int .i64 2, .int .u8 f, .bool true]) (by simp [results, Tryz.results5, go_sem]) rfl ?_
    exact ⟨f, rfl, FL.out.2.1, FL.out.2.2.1, below_drew HB.out⟩
end Go.Proofs.YticonaahlplbjaaGreatDoor.Tn
