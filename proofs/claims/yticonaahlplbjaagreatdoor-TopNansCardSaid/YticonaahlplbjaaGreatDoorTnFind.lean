/- numeric.find. -/
import Derived.Test.YticonaahlplbjaaGreatDoorTnKind
namespace Go.Proofs.YticonaahlplbjaaGreatDoor.Tn
open Go.RowKit Go.Proofs.YticonaahlplbjaaGreatDoor.PTopNans Go.Proofs.YticonaahlplbjaaGreatDoorW.PrintWords Go.Proofs.YticonaahlplbjaaGreatDoorW.PrintLast Go.Proofs.YticonaahlplbjaaGreatDoorW.PrintMore
set_option linter.unusedVariables false
set_option linter.unusedSimpArgs false
theorem first_no {op b s g : Int} (w : World) (io : i64r op) (hb : 0 ≤ b ∧ b ≤ 1000) (hs : 0 < s ∧ s ≤ 100) (h : op < b ∨ b + 2 * s ≤ op) : Calls Tryz.prog 27 #[.int .i64 op, .int .i64 b, .int .i64 s, .int .i64 g] w fun e w' => e = .returned (.tuple #[.agg #[.int .i64 0, .int .i64 0, .int .i64 0], .bool false]) ∧ Below w.heap.size w w' := by
  refine (first_calls op b s g w io hb hs).mono ?_
  rintro e w' ⟨⟨gg, n, wd, ok, rfl, r⟩, hb'⟩
  rcases r with ⟨c1, c2, _⟩ | ⟨c1, c2, _⟩ | ⟨_, rfl, rfl, rfl, rfl⟩
  · omega
  · omega
  · exact ⟨rfl, hb'⟩
theorem first_yes {op b s g : Int} (w : World) (io : i64r op) (hb : 0 ≤ b ∧ b ≤ 1000) (hs : 0 < s ∧ s ≤ 100) (n wd : Int) (h : (b ≤ op ∧ op < b + s ∧ n = op - b ∧ wd = 32) ∨ (b + s ≤ op ∧ op < b + 2 * s ∧ n = op - b - s ∧ wd = 64)) : Calls Tryz.prog 27 #[.int .i64 op, .int .i64 b, .int .i64 s, .int .i64 g] w fun e w' => e = .returned (.tuple #[.agg #[.int .i64 g, .int .i64 n, .int .i64 wd], .bool true]) ∧ Below w.heap.size w w' := by
  refine (first_calls op b s g w io hb hs).mono ?_
  rintro e w' ⟨⟨gg, m, wd', ok, rfl, r⟩, hb'⟩
  rcases r with ⟨c1, c2, rfl, rfl, rfl, rfl⟩ | ⟨c1, c2, rfl, rfl, rfl, rfl⟩ | ⟨c1, rfl, rfl, rfl, rfl⟩
  · rcases h with ⟨_, _, rfl, rfl⟩ | ⟨h1, _⟩
    · exact ⟨rfl, hb'⟩
    · omega
  · rcases h with ⟨_, h1, _⟩ | ⟨_, _, rfl, rfl⟩
    · omega
    · exact ⟨rfl, hb'⟩
  · omega
set_option maxRecDepth 100000 in
set_option maxHeartbeats 4000000 in
theorem find_A0 (op : Int) (w : World) (io : i64r op) (n wd : Int) (h : (69 ≤ op ∧ op < 80 ∧ n = op - 69 ∧ wd = 32) ∨ (80 ≤ op ∧ op < 91 ∧ n = op - 69 - 11 ∧ wd = 64)) (hn : n = 0) : Calls Tryz.prog 10 #[.int .i64 op] w fun e w' => e = .returned (.agg #[.int .i64 1, .int .i64 n, .int .i64 wd]) ∧ Below w.heap.size w w' := by
  have q0 := heap_alloc_new w (.cells #[.int .i64 0, .int .i64 0, .int .i64 0] 34)
  have h0 := below_alloc (Below.refl w.heap.size w) (.cells #[.int .i64 0, .int .i64 0, .int .i64 0] 34)
  obtain ⟨W0, hW0⟩ : ∃ W, W = w.alloc (.cells #[.int .i64 0, .int .i64 0, .int .i64 0] 34) := ⟨_, rfl⟩
  rw [← hW0] at q0 h0
  have QZ := Aside0.mk q0
  have HB := Aside0.mk h0
  have hW := Aside0.mk hW0
  clear q0 h0 hW0
  have CY := Aside0.mk (fun W => first_yes (op := op) (b := 69) (s := 11) (g := 2) W io (by decide) (by decide) n wd (by omega))
  have d : (n == 0) = true := beq_iff_eq.2 hn
  clear hn
  clear io h
  go_enter Tryz.func10, Tryz.ntmps10
  go_upto_region 1 with (fail)
  rw [← hW.out]
  clear hW
  go_upto_region 2 with (first
    | (go_at_call 27; (with_reducible refine (CY.out _).mono ?_)
       rintro e w2 ⟨rfl, hb⟩
       have qz := (hb.block _ (blk_lt QZ.out)).trans QZ.out
       have h1 := below_then HB.out HB.out.size hb
       have LZ := Aside0.mk (blk_lt qz)
       have GP := Aside0.mk h1.size
       have QZ := Aside0.mk ((heap_alloc_old (.cells #[.int .i64 2, .int .i64 n, .int .i64 wd] 34) (blk_lt qz)).trans qz)
       have QP := Aside0.mk (heap_alloc_new w2 (.cells #[.int .i64 2, .int .i64 n, .int .i64 wd] 34))
       have HB := Aside0.mk (h1.alloc h1.size (.cells #[.int .i64 2, .int .i64 n, .int .i64 wd] 34))
       clear hb qz h1)
    | fail)
  obtain ⟨W1, hW1⟩ : ∃ W, W = w2.alloc (.cells #[.int .i64 2, .int .i64 n, .int .i64 wd] 34) := ⟨_, rfl⟩
  obtain ⟨p, hp⟩ : ∃ p, p = w2.heap.size := ⟨_, rfl⟩
  rw [← hp] at QP GP LZ ⊢
  rw [← hW1] at QZ QP HB ⊢
  clear hW1 hp
  have ne : p ≠ w.heap.size := by have := LZ.out; omega
  have ne' : w.heap.size ≠ p := by have := LZ.out; omega
  have NE := Aside0.mk ne
  have NE' := Aside0.mk ne'
  have c0 : W1.cell? ⟨p, 0, none⟩ = some (.int .i64 2) := (blk_cell QP.out 0).trans rfl
  have c1 : W1.cell? ⟨p, 1, none⟩ = some (.int .i64 n) := (blk_cell QP.out 1).trans rfl
  have c2 : W1.cell? ⟨p, 2, none⟩ = some (.int .i64 wd) := (blk_cell QP.out 2).trans rfl
  have f0 : W1.frozen? ⟨p, 0, none⟩ = false := blk_frozen QP.out 0
  have f1 : W1.frozen? ⟨p, 1, none⟩ = false := blk_frozen QP.out 1
  have f2 : W1.frozen? ⟨p, 2, none⟩ = false := blk_frozen QP.out 2
  have z0 : W1.cell? ⟨w.heap.size, 0, none⟩ = some (.int .i64 0) := (blk_cell QZ.out 0).trans rfl
  have z1 : W1.cell? ⟨w.heap.size, 1, none⟩ = some (.int .i64 0) := (blk_cell QZ.out 1).trans rfl
  have z2 : W1.cell? ⟨w.heap.size, 2, none⟩ = some (.int .i64 0) := (blk_cell QZ.out 2).trans rfl
  have fz0 : W1.frozen? ⟨w.heap.size, 0, none⟩ = false := blk_frozen QZ.out 0
  have fz1 : W1.frozen? ⟨w.heap.size, 1, none⟩ = false := blk_frozen QZ.out 1
  have fz2 : W1.frozen? ⟨w.heap.size, 2, none⟩ = false := blk_frozen QZ.out 2
  go_wp2
  have P := (blk_set (blk_set (blk_set (blk_far QZ.out (p := ⟨p, 0, none⟩) NE'.out (.int .i64 1)) 0 (.int .i64 1)) 1 (.int .i64 n)) 2 (.int .i64 wd))
  have k0 := (blk_cell P 0).trans rfl
  have k1 := (blk_cell P 1).trans rfl
  have k2 := (blk_cell P 2).trans rfl
  refine bodyPost_ret (v := .agg #[.int .i64 1, .int .i64 n, .int .i64 wd]) ?hr rfl ?_
  case hr =>
    clear P z0 z1 z2 fz0 fz1 fz2
    simp [results, Tryz.results10, go_sem, k0, k1, k2]
  exact ⟨rfl, (bset (bset (bset (bset HB.out GP.out 0 (.int .i64 1)) (by omega) 0 (.int .i64 1)) (by omega) 1 (.int .i64 n)) (by omega) 2 (.int .i64 wd))⟩
set_option maxRecDepth 100000 in
set_option maxHeartbeats 4000000 in
theorem find_A1 (op : Int) (w : World) (io : i64r op) (n wd : Int) (h : (69 ≤ op ∧ op < 80 ∧ n = op - 69 ∧ wd = 32) ∨ (80 ≤ op ∧ op < 91 ∧ n = op - 69 - 11 ∧ wd = 64)) (hn : n ≠ 0) : Calls Tryz.prog 10 #[.int .i64 op] w fun e w' => e = .returned (.agg #[.int .i64 2, .int .i64 n, .int .i64 wd]) ∧ Below w.heap.size w w' := by
  have q0 := heap_alloc_new w (.cells #[.int .i64 0, .int .i64 0, .int .i64 0] 34)
  have h0 := below_alloc (Below.refl w.heap.size w) (.cells #[.int .i64 0, .int .i64 0, .int .i64 0] 34)
  obtain ⟨W0, hW0⟩ : ∃ W, W = w.alloc (.cells #[.int .i64 0, .int .i64 0, .int .i64 0] 34) := ⟨_, rfl⟩
  rw [← hW0] at q0 h0
  have QZ := Aside0.mk q0
  have HB := Aside0.mk h0
  have hW := Aside0.mk hW0
  clear q0 h0 hW0
  have CY := Aside0.mk (fun W => first_yes (op := op) (b := 69) (s := 11) (g := 2) W io (by decide) (by decide) n wd (by omega))
  have d : (n == 0) = false := beq_eq_false_iff_ne.2 hn
  clear hn
  clear io h
  go_enter Tryz.func10, Tryz.ntmps10
  go_upto_region 1 with (fail)
  rw [← hW.out]
  clear hW
  go_upto_region 2 with (first
    | (go_at_call 27; (with_reducible refine (CY.out _).mono ?_)
       rintro e w2 ⟨rfl, hb⟩
       have qz := (hb.block _ (blk_lt QZ.out)).trans QZ.out
       have h1 := below_then HB.out HB.out.size hb
       have LZ := Aside0.mk (blk_lt qz)
       have GP := Aside0.mk h1.size
       have QZ := Aside0.mk ((heap_alloc_old (.cells #[.int .i64 2, .int .i64 n, .int .i64 wd] 34) (blk_lt qz)).trans qz)
       have QP := Aside0.mk (heap_alloc_new w2 (.cells #[.int .i64 2, .int .i64 n, .int .i64 wd] 34))
       have HB := Aside0.mk (h1.alloc h1.size (.cells #[.int .i64 2, .int .i64 n, .int .i64 wd] 34))
       clear hb qz h1)
    | fail)
  obtain ⟨W1, hW1⟩ : ∃ W, W = w2.alloc (.cells #[.int .i64 2, .int .i64 n, .int .i64 wd] 34) := ⟨_, rfl⟩
  obtain ⟨p, hp⟩ : ∃ p, p = w2.heap.size := ⟨_, rfl⟩
  rw [← hp] at QP GP LZ ⊢
  rw [← hW1] at QZ QP HB ⊢
  clear hW1 hp
  have ne : p ≠ w.heap.size := by have := LZ.out; omega
  have ne' : w.heap.size ≠ p := by have := LZ.out; omega
  have NE := Aside0.mk ne
  have NE' := Aside0.mk ne'
  have c0 : W1.cell? ⟨p, 0, none⟩ = some (.int .i64 2) := (blk_cell QP.out 0).trans rfl
  have c1 : W1.cell? ⟨p, 1, none⟩ = some (.int .i64 n) := (blk_cell QP.out 1).trans rfl
  have c2 : W1.cell? ⟨p, 2, none⟩ = some (.int .i64 wd) := (blk_cell QP.out 2).trans rfl
  have f0 : W1.frozen? ⟨p, 0, none⟩ = false := blk_frozen QP.out 0
  have f1 : W1.frozen? ⟨p, 1, none⟩ = false := blk_frozen QP.out 1
  have f2 : W1.frozen? ⟨p, 2, none⟩ = false := blk_frozen QP.out 2
  have z0 : W1.cell? ⟨w.heap.size, 0, none⟩ = some (.int .i64 0) := (blk_cell QZ.out 0).trans rfl
  have z1 : W1.cell? ⟨w.heap.size, 1, none⟩ = some (.int .i64 0) := (blk_cell QZ.out 1).trans rfl
  have z2 : W1.cell? ⟨w.heap.size, 2, none⟩ = some (.int .i64 0) := (blk_cell QZ.out 2).trans rfl
  have fz0 : W1.frozen? ⟨w.heap.size, 0, none⟩ = false := blk_frozen QZ.out 0
  have fz1 : W1.frozen? ⟨w.heap.size, 1, none⟩ = false := blk_frozen QZ.out 1
  have fz2 : W1.frozen? ⟨w.heap.size, 2, none⟩ = false := blk_frozen QZ.out 2
  go_wp2
  have P := (blk_set (blk_set (blk_set QZ.out 0 (.int .i64 2)) 1 (.int .i64 n)) 2 (.int .i64 wd))
  have k0 := (blk_cell P 0).trans rfl
  have k1 := (blk_cell P 1).trans rfl
  have k2 := (blk_cell P 2).trans rfl
  refine bodyPost_ret (v := .agg #[.int .i64 2, .int .i64 n, .int .i64 wd]) ?hr rfl ?_
  case hr =>
    clear P z0 z1 z2 fz0 fz1 fz2
    simp [results, Tryz.results10, go_sem, k0, k1, k2]
  exact ⟨rfl, (bset (bset (bset HB.out (by omega) 0 (.int .i64 2)) (by omega) 1 (.int .i64 n)) (by omega) 2 (.int .i64 wd))⟩
set_option maxRecDepth 100000 in
set_option maxHeartbeats 4000000 in
theorem find_B (op : Int) (w : World) (io : i64r op) (n wd : Int) (h : (91 ≤ op ∧ op < 97 ∧ n = op - 91 ∧ wd = 32) ∨ (97 ≤ op ∧ op < 103 ∧ n = op - 91 - 6 ∧ wd = 64))  : Calls Tryz.prog 10 #[.int .i64 op] w fun e w' => e = .returned (.agg #[.int .i64 3, .int .i64 n, .int .i64 wd]) ∧ Below w.heap.size w w' := by
  have q0 := heap_alloc_new w (.cells #[.int .i64 0, .int .i64 0, .int .i64 0] 34)
  have h0 := below_alloc (Below.refl w.heap.size w) (.cells #[.int .i64 0, .int .i64 0, .int .i64 0] 34)
  obtain ⟨W0, hW0⟩ : ∃ W, W = w.alloc (.cells #[.int .i64 0, .int .i64 0, .int .i64 0] 34) := ⟨_, rfl⟩
  rw [← hW0] at q0 h0
  have QZ := Aside0.mk q0
  have HB := Aside0.mk h0
  have hW := Aside0.mk hW0
  clear q0 h0 hW0
  have C0 := Aside0.mk (fun W => first_no (op := op) (b := 69) (s := 11) (g := 2) W io (by decide) (by decide) (by omega))
  have CY := Aside0.mk (fun W => first_yes (op := op) (b := 91) (s := 6) (g := 3) W io (by decide) (by decide) n wd (by omega))
  clear io h
  go_enter Tryz.func10, Tryz.ntmps10
  go_upto_region 1 with (fail)
  rw [← hW.out]
  clear hW
  go_upto_region 7 with (first
    | (go_at_call 27; (with_reducible refine (C0.out _).mono ?_)
       rintro e w1 ⟨rfl, hb⟩
       have qz := (hb.block _ (blk_lt QZ.out)).trans QZ.out
       have h1 := below_then HB.out HB.out.size hb
       have QZ := Aside0.mk ((heap_alloc_old (.cells #[.int .i64 0, .int .i64 0, .int .i64 0] 34) (blk_lt qz)).trans qz)
       have HB := Aside0.mk (h1.alloc h1.size (.cells #[.int .i64 0, .int .i64 0, .int .i64 0] 34))
       clear hb qz h1)
    | (go_at_call 27; (with_reducible refine (CY.out _).mono ?_)
       rintro e w2 ⟨rfl, hb⟩
       have qz := (hb.block _ (blk_lt QZ.out)).trans QZ.out
       have h1 := below_then HB.out HB.out.size hb
       have LZ := Aside0.mk (blk_lt qz)
       have GP := Aside0.mk h1.size
       have QZ := Aside0.mk ((heap_alloc_old (.cells #[.int .i64 3, .int .i64 n, .int .i64 wd] 34) (blk_lt qz)).trans qz)
       have QP := Aside0.mk (heap_alloc_new w2 (.cells #[.int .i64 3, .int .i64 n, .int .i64 wd] 34))
       have HB := Aside0.mk (h1.alloc h1.size (.cells #[.int .i64 3, .int .i64 n, .int .i64 wd] 34))
       clear hb qz h1)
    | fail)
  obtain ⟨W1, hW1⟩ : ∃ W, W = w2.alloc (.cells #[.int .i64 3, .int .i64 n, .int .i64 wd] 34) := ⟨_, rfl⟩
  obtain ⟨p, hp⟩ : ∃ p, p = w2.heap.size := ⟨_, rfl⟩
  rw [← hp] at QP GP LZ ⊢
  rw [← hW1] at QZ QP HB ⊢
  clear hW1 hp
  have ne : p ≠ w.heap.size := by have := LZ.out; omega
  have ne' : w.heap.size ≠ p := by have := LZ.out; omega
  have NE := Aside0.mk ne
  have NE' := Aside0.mk ne'
  have c0 : W1.cell? ⟨p, 0, none⟩ = some (.int .i64 3) := (blk_cell QP.out 0).trans rfl
  have c1 : W1.cell? ⟨p, 1, none⟩ = some (.int .i64 n) := (blk_cell QP.out 1).trans rfl
  have c2 : W1.cell? ⟨p, 2, none⟩ = some (.int .i64 wd) := (blk_cell QP.out 2).trans rfl
  have f0 : W1.frozen? ⟨p, 0, none⟩ = false := blk_frozen QP.out 0
  have f1 : W1.frozen? ⟨p, 1, none⟩ = false := blk_frozen QP.out 1
  have f2 : W1.frozen? ⟨p, 2, none⟩ = false := blk_frozen QP.out 2
  have z0 : W1.cell? ⟨w.heap.size, 0, none⟩ = some (.int .i64 0) := (blk_cell QZ.out 0).trans rfl
  have z1 : W1.cell? ⟨w.heap.size, 1, none⟩ = some (.int .i64 0) := (blk_cell QZ.out 1).trans rfl
  have z2 : W1.cell? ⟨w.heap.size, 2, none⟩ = some (.int .i64 0) := (blk_cell QZ.out 2).trans rfl
  have fz0 : W1.frozen? ⟨w.heap.size, 0, none⟩ = false := blk_frozen QZ.out 0
  have fz1 : W1.frozen? ⟨w.heap.size, 1, none⟩ = false := blk_frozen QZ.out 1
  have fz2 : W1.frozen? ⟨w.heap.size, 2, none⟩ = false := blk_frozen QZ.out 2
  go_wp2
  have P := (blk_set (blk_set (blk_set QZ.out 0 (.int .i64 3)) 1 (.int .i64 n)) 2 (.int .i64 wd))
  have k0 := (blk_cell P 0).trans rfl
  have k1 := (blk_cell P 1).trans rfl
  have k2 := (blk_cell P 2).trans rfl
  refine bodyPost_ret (v := .agg #[.int .i64 3, .int .i64 n, .int .i64 wd]) ?hr rfl ?_
  case hr =>
    clear P z0 z1 z2 fz0 fz1 fz2
    simp [results, Tryz.results10, go_sem, k0, k1, k2]
  exact ⟨rfl, (bset (bset (bset HB.out (by omega) 0 (.int .i64 3)) (by omega) 1 (.int .i64 n)) (by omega) 2 (.int .i64 wd))⟩
set_option maxRecDepth 100000 in
set_option maxHeartbeats 4000000 in
theorem find_C0 (op : Int) (w : World) (io : i64r op) (n wd : Int) (h : (103 ≤ op ∧ op < 121 ∧ n = op - 103 ∧ wd = 32) ∨ (121 ≤ op ∧ op < 139 ∧ n = op - 103 - 18 ∧ wd = 64)) (hn : n < 3) : Calls Tryz.prog 10 #[.int .i64 op] w fun e w' => e = .returned (.agg #[.int .i64 4, .int .i64 n, .int .i64 wd]) ∧ Below w.heap.size w w' := by
  have q0 := heap_alloc_new w (.cells #[.int .i64 0, .int .i64 0, .int .i64 0] 34)
  have h0 := below_alloc (Below.refl w.heap.size w) (.cells #[.int .i64 0, .int .i64 0, .int .i64 0] 34)
  obtain ⟨W0, hW0⟩ : ∃ W, W = w.alloc (.cells #[.int .i64 0, .int .i64 0, .int .i64 0] 34) := ⟨_, rfl⟩
  rw [← hW0] at q0 h0
  have QZ := Aside0.mk q0
  have HB := Aside0.mk h0
  have hW := Aside0.mk hW0
  clear q0 h0 hW0
  have C0 := Aside0.mk (fun W => first_no (op := op) (b := 69) (s := 11) (g := 2) W io (by decide) (by decide) (by omega))
  have C1 := Aside0.mk (fun W => first_no (op := op) (b := 91) (s := 6) (g := 3) W io (by decide) (by decide) (by omega))
  have CY := Aside0.mk (fun W => first_yes (op := op) (b := 103) (s := 18) (g := 5) W io (by decide) (by decide) n wd (by omega))
  have d : decide (n < 3) = true := decide_eq_true hn
  clear hn
  clear io h
  go_enter Tryz.func10, Tryz.ntmps10
  go_upto_region 1 with (fail)
  rw [← hW.out]
  clear hW
  go_upto_region 10 with (first
    | (go_at_call 27; (with_reducible refine (C0.out _).mono ?_)
       rintro e w1 ⟨rfl, hb⟩
       have qz := (hb.block _ (blk_lt QZ.out)).trans QZ.out
       have h1 := below_then HB.out HB.out.size hb
       have QZ := Aside0.mk ((heap_alloc_old (.cells #[.int .i64 0, .int .i64 0, .int .i64 0] 34) (blk_lt qz)).trans qz)
       have HB := Aside0.mk (h1.alloc h1.size (.cells #[.int .i64 0, .int .i64 0, .int .i64 0] 34))
       clear hb qz h1)
    | (go_at_call 27; (with_reducible refine (C1.out _).mono ?_)
       rintro e w1 ⟨rfl, hb⟩
       have qz := (hb.block _ (blk_lt QZ.out)).trans QZ.out
       have h1 := below_then HB.out HB.out.size hb
       have QZ := Aside0.mk ((heap_alloc_old (.cells #[.int .i64 0, .int .i64 0, .int .i64 0] 34) (blk_lt qz)).trans qz)
       have HB := Aside0.mk (h1.alloc h1.size (.cells #[.int .i64 0, .int .i64 0, .int .i64 0] 34))
       clear hb qz h1)
    | (go_at_call 27; (with_reducible refine (CY.out _).mono ?_)
       rintro e w2 ⟨rfl, hb⟩
       have qz := (hb.block _ (blk_lt QZ.out)).trans QZ.out
       have h1 := below_then HB.out HB.out.size hb
       have LZ := Aside0.mk (blk_lt qz)
       have GP := Aside0.mk h1.size
       have QZ := Aside0.mk ((heap_alloc_old (.cells #[.int .i64 5, .int .i64 n, .int .i64 wd] 34) (blk_lt qz)).trans qz)
       have QP := Aside0.mk (heap_alloc_new w2 (.cells #[.int .i64 5, .int .i64 n, .int .i64 wd] 34))
       have HB := Aside0.mk (h1.alloc h1.size (.cells #[.int .i64 5, .int .i64 n, .int .i64 wd] 34))
       clear hb qz h1)
    | fail)
  obtain ⟨W1, hW1⟩ : ∃ W, W = w2.alloc (.cells #[.int .i64 5, .int .i64 n, .int .i64 wd] 34) := ⟨_, rfl⟩
  obtain ⟨p, hp⟩ : ∃ p, p = w2.heap.size := ⟨_, rfl⟩
  rw [← hp] at QP GP LZ ⊢
  rw [← hW1] at QZ QP HB ⊢
  clear hW1 hp
  have ne : p ≠ w.heap.size := by have := LZ.out; omega
  have ne' : w.heap.size ≠ p := by have := LZ.out; omega
  have NE := Aside0.mk ne
  have NE' := Aside0.mk ne'
  have c0 : W1.cell? ⟨p, 0, none⟩ = some (.int .i64 5) := (blk_cell QP.out 0).trans rfl
  have c1 : W1.cell? ⟨p, 1, none⟩ = some (.int .i64 n) := (blk_cell QP.out 1).trans rfl
  have c2 : W1.cell? ⟨p, 2, none⟩ = some (.int .i64 wd) := (blk_cell QP.out 2).trans rfl
  have f0 : W1.frozen? ⟨p, 0, none⟩ = false := blk_frozen QP.out 0
  have f1 : W1.frozen? ⟨p, 1, none⟩ = false := blk_frozen QP.out 1
  have f2 : W1.frozen? ⟨p, 2, none⟩ = false := blk_frozen QP.out 2
  have z0 : W1.cell? ⟨w.heap.size, 0, none⟩ = some (.int .i64 0) := (blk_cell QZ.out 0).trans rfl
  have z1 : W1.cell? ⟨w.heap.size, 1, none⟩ = some (.int .i64 0) := (blk_cell QZ.out 1).trans rfl
  have z2 : W1.cell? ⟨w.heap.size, 2, none⟩ = some (.int .i64 0) := (blk_cell QZ.out 2).trans rfl
  have fz0 : W1.frozen? ⟨w.heap.size, 0, none⟩ = false := blk_frozen QZ.out 0
  have fz1 : W1.frozen? ⟨w.heap.size, 1, none⟩ = false := blk_frozen QZ.out 1
  have fz2 : W1.frozen? ⟨w.heap.size, 2, none⟩ = false := blk_frozen QZ.out 2
  go_wp2
  have P := (blk_set (blk_set (blk_set (blk_far QZ.out (p := ⟨p, 0, none⟩) NE'.out (.int .i64 4)) 0 (.int .i64 4)) 1 (.int .i64 n)) 2 (.int .i64 wd))
  have k0 := (blk_cell P 0).trans rfl
  have k1 := (blk_cell P 1).trans rfl
  have k2 := (blk_cell P 2).trans rfl
  refine bodyPost_ret (v := .agg #[.int .i64 4, .int .i64 n, .int .i64 wd]) ?hr rfl ?_
  case hr =>
    clear P z0 z1 z2 fz0 fz1 fz2
    simp [results, Tryz.results10, go_sem, k0, k1, k2]
  exact ⟨rfl, (bset (bset (bset (bset HB.out GP.out 0 (.int .i64 4)) (by omega) 0 (.int .i64 4)) (by omega) 1 (.int .i64 n)) (by omega) 2 (.int .i64 wd))⟩
set_option maxRecDepth 100000 in
set_option maxHeartbeats 4000000 in
theorem find_C1 (op : Int) (w : World) (io : i64r op) (n wd : Int) (h : (103 ≤ op ∧ op < 121 ∧ n = op - 103 ∧ wd = 32) ∨ (121 ≤ op ∧ op < 139 ∧ n = op - 103 - 18 ∧ wd = 64)) (hn : ¬ n < 3) : Calls Tryz.prog 10 #[.int .i64 op] w fun e w' => e = .returned (.agg #[.int .i64 5, .int .i64 n, .int .i64 wd]) ∧ Below w.heap.size w w' := by
  have q0 := heap_alloc_new w (.cells #[.int .i64 0, .int .i64 0, .int .i64 0] 34)
  have h0 := below_alloc (Below.refl w.heap.size w) (.cells #[.int .i64 0, .int .i64 0, .int .i64 0] 34)
  obtain ⟨W0, hW0⟩ : ∃ W, W = w.alloc (.cells #[.int .i64 0, .int .i64 0, .int .i64 0] 34) := ⟨_, rfl⟩
  rw [← hW0] at q0 h0
  have QZ := Aside0.mk q0
  have HB := Aside0.mk h0
  have hW := Aside0.mk hW0
  clear q0 h0 hW0
  have C0 := Aside0.mk (fun W => first_no (op := op) (b := 69) (s := 11) (g := 2) W io (by decide) (by decide) (by omega))
  have C1 := Aside0.mk (fun W => first_no (op := op) (b := 91) (s := 6) (g := 3) W io (by decide) (by decide) (by omega))
  have CY := Aside0.mk (fun W => first_yes (op := op) (b := 103) (s := 18) (g := 5) W io (by decide) (by decide) n wd (by omega))
  have d : decide (n < 3) = false := decide_eq_false hn
  clear hn
  clear io h
  go_enter Tryz.func10, Tryz.ntmps10
  go_upto_region 1 with (fail)
  rw [← hW.out]
  clear hW
  go_upto_region 10 with (first
    | (go_at_call 27; (with_reducible refine (C0.out _).mono ?_)
       rintro e w1 ⟨rfl, hb⟩
       have qz := (hb.block _ (blk_lt QZ.out)).trans QZ.out
       have h1 := below_then HB.out HB.out.size hb
       have QZ := Aside0.mk ((heap_alloc_old (.cells #[.int .i64 0, .int .i64 0, .int .i64 0] 34) (blk_lt qz)).trans qz)
       have HB := Aside0.mk (h1.alloc h1.size (.cells #[.int .i64 0, .int .i64 0, .int .i64 0] 34))
       clear hb qz h1)
    | (go_at_call 27; (with_reducible refine (C1.out _).mono ?_)
       rintro e w1 ⟨rfl, hb⟩
       have qz := (hb.block _ (blk_lt QZ.out)).trans QZ.out
       have h1 := below_then HB.out HB.out.size hb
       have QZ := Aside0.mk ((heap_alloc_old (.cells #[.int .i64 0, .int .i64 0, .int .i64 0] 34) (blk_lt qz)).trans qz)
       have HB := Aside0.mk (h1.alloc h1.size (.cells #[.int .i64 0, .int .i64 0, .int .i64 0] 34))
       clear hb qz h1)
    | (go_at_call 27; (with_reducible refine (CY.out _).mono ?_)
       rintro e w2 ⟨rfl, hb⟩
       have qz := (hb.block _ (blk_lt QZ.out)).trans QZ.out
       have h1 := below_then HB.out HB.out.size hb
       have LZ := Aside0.mk (blk_lt qz)
       have GP := Aside0.mk h1.size
       have QZ := Aside0.mk ((heap_alloc_old (.cells #[.int .i64 5, .int .i64 n, .int .i64 wd] 34) (blk_lt qz)).trans qz)
       have QP := Aside0.mk (heap_alloc_new w2 (.cells #[.int .i64 5, .int .i64 n, .int .i64 wd] 34))
       have HB := Aside0.mk (h1.alloc h1.size (.cells #[.int .i64 5, .int .i64 n, .int .i64 wd] 34))
       clear hb qz h1)
    | fail)
  obtain ⟨W1, hW1⟩ : ∃ W, W = w2.alloc (.cells #[.int .i64 5, .int .i64 n, .int .i64 wd] 34) := ⟨_, rfl⟩
  obtain ⟨p, hp⟩ : ∃ p, p = w2.heap.size := ⟨_, rfl⟩
  rw [← hp] at QP GP LZ ⊢
  rw [← hW1] at QZ QP HB ⊢
  clear hW1 hp
  have ne : p ≠ w.heap.size := by have := LZ.out; omega
  have ne' : w.heap.size ≠ p := by have := LZ.out; omega
  have NE := Aside0.mk ne
  have NE' := Aside0.mk ne'
  have c0 : W1.cell? ⟨p, 0, none⟩ = some (.int .i64 5) := (blk_cell QP.out 0).trans rfl
  have c1 : W1.cell? ⟨p, 1, none⟩ = some (.int .i64 n) := (blk_cell QP.out 1).trans rfl
  have c2 : W1.cell? ⟨p, 2, none⟩ = some (.int .i64 wd) := (blk_cell QP.out 2).trans rfl
  have f0 : W1.frozen? ⟨p, 0, none⟩ = false := blk_frozen QP.out 0
  have f1 : W1.frozen? ⟨p, 1, none⟩ = false := blk_frozen QP.out 1
  have f2 : W1.frozen? ⟨p, 2, none⟩ = false := blk_frozen QP.out 2
  have z0 : W1.cell? ⟨w.heap.size, 0, none⟩ = some (.int .i64 0) := (blk_cell QZ.out 0).trans rfl
  have z1 : W1.cell? ⟨w.heap.size, 1, none⟩ = some (.int .i64 0) := (blk_cell QZ.out 1).trans rfl
  have z2 : W1.cell? ⟨w.heap.size, 2, none⟩ = some (.int .i64 0) := (blk_cell QZ.out 2).trans rfl
  have fz0 : W1.frozen? ⟨w.heap.size, 0, none⟩ = false := blk_frozen QZ.out 0
  have fz1 : W1.frozen? ⟨w.heap.size, 1, none⟩ = false := blk_frozen QZ.out 1
  have fz2 : W1.frozen? ⟨w.heap.size, 2, none⟩ = false := blk_frozen QZ.out 2
  go_wp2
  have P := (blk_set (blk_set (blk_set QZ.out 0 (.int .i64 5)) 1 (.int .i64 n)) 2 (.int .i64 wd))
  have k0 := (blk_cell P 0).trans rfl
  have k1 := (blk_cell P 1).trans rfl
  have k2 := (blk_cell P 2).trans rfl
  refine bodyPost_ret (v := .agg #[.int .i64 5, .int .i64 n, .int .i64 wd]) ?hr rfl ?_
  case hr =>
    clear P z0 z1 z2 fz0 fz1 fz2
    simp [results, Tryz.results10, go_sem, k0, k1, k2]
  exact ⟨rfl, (bset (bset (bset HB.out (by omega) 0 (.int .i64 5)) (by omega) 1 (.int .i64 n)) (by omega) 2 (.int .i64 wd))⟩
set_option maxRecDepth 100000 in
set_option maxHeartbeats 4000000 in
theorem find_D0 (op : Int) (w : World) (io : i64r op) (n wd : Int) (h : (139 ≤ op ∧ op < 153 ∧ n = op - 139 ∧ wd = 32) ∨ (153 ≤ op ∧ op < 167 ∧ n = op - 139 - 14 ∧ wd = 64)) (hn : n < 7) : Calls Tryz.prog 10 #[.int .i64 op] w fun e w' => e = .returned (.agg #[.int .i64 6, .int .i64 n, .int .i64 wd]) ∧ Below w.heap.size w w' := by
  have q0 := heap_alloc_new w (.cells #[.int .i64 0, .int .i64 0, .int .i64 0] 34)
  have h0 := below_alloc (Below.refl w.heap.size w) (.cells #[.int .i64 0, .int .i64 0, .int .i64 0] 34)
  obtain ⟨W0, hW0⟩ : ∃ W, W = w.alloc (.cells #[.int .i64 0, .int .i64 0, .int .i64 0] 34) := ⟨_, rfl⟩
  rw [← hW0] at q0 h0
  have QZ := Aside0.mk q0
  have HB := Aside0.mk h0
  have hW := Aside0.mk hW0
  clear q0 h0 hW0
  have C0 := Aside0.mk (fun W => first_no (op := op) (b := 69) (s := 11) (g := 2) W io (by decide) (by decide) (by omega))
  have C1 := Aside0.mk (fun W => first_no (op := op) (b := 91) (s := 6) (g := 3) W io (by decide) (by decide) (by omega))
  have C2 := Aside0.mk (fun W => first_no (op := op) (b := 103) (s := 18) (g := 5) W io (by decide) (by decide) (by omega))
  have CY := Aside0.mk (fun W => first_yes (op := op) (b := 139) (s := 14) (g := 7) W io (by decide) (by decide) n wd (by omega))
  have d : decide (n < 7) = true := decide_eq_true hn
  clear hn
  clear io h
  go_enter Tryz.func10, Tryz.ntmps10
  go_upto_region 1 with (fail)
  rw [← hW.out]
  clear hW
  go_upto_region 15 with (first
    | (go_at_call 27; (with_reducible refine (C0.out _).mono ?_)
       rintro e w1 ⟨rfl, hb⟩
       have qz := (hb.block _ (blk_lt QZ.out)).trans QZ.out
       have h1 := below_then HB.out HB.out.size hb
       have QZ := Aside0.mk ((heap_alloc_old (.cells #[.int .i64 0, .int .i64 0, .int .i64 0] 34) (blk_lt qz)).trans qz)
       have HB := Aside0.mk (h1.alloc h1.size (.cells #[.int .i64 0, .int .i64 0, .int .i64 0] 34))
       clear hb qz h1)
    | (go_at_call 27; (with_reducible refine (C1.out _).mono ?_)
       rintro e w1 ⟨rfl, hb⟩
       have qz := (hb.block _ (blk_lt QZ.out)).trans QZ.out
       have h1 := below_then HB.out HB.out.size hb
       have QZ := Aside0.mk ((heap_alloc_old (.cells #[.int .i64 0, .int .i64 0, .int .i64 0] 34) (blk_lt qz)).trans qz)
       have HB := Aside0.mk (h1.alloc h1.size (.cells #[.int .i64 0, .int .i64 0, .int .i64 0] 34))
       clear hb qz h1)
    | (go_at_call 27; (with_reducible refine (C2.out _).mono ?_)
       rintro e w1 ⟨rfl, hb⟩
       have qz := (hb.block _ (blk_lt QZ.out)).trans QZ.out
       have h1 := below_then HB.out HB.out.size hb
       have QZ := Aside0.mk ((heap_alloc_old (.cells #[.int .i64 0, .int .i64 0, .int .i64 0] 34) (blk_lt qz)).trans qz)
       have HB := Aside0.mk (h1.alloc h1.size (.cells #[.int .i64 0, .int .i64 0, .int .i64 0] 34))
       clear hb qz h1)
    | (go_at_call 27; (with_reducible refine (CY.out _).mono ?_)
       rintro e w2 ⟨rfl, hb⟩
       have qz := (hb.block _ (blk_lt QZ.out)).trans QZ.out
       have h1 := below_then HB.out HB.out.size hb
       have LZ := Aside0.mk (blk_lt qz)
       have GP := Aside0.mk h1.size
       have QZ := Aside0.mk ((heap_alloc_old (.cells #[.int .i64 7, .int .i64 n, .int .i64 wd] 34) (blk_lt qz)).trans qz)
       have QP := Aside0.mk (heap_alloc_new w2 (.cells #[.int .i64 7, .int .i64 n, .int .i64 wd] 34))
       have HB := Aside0.mk (h1.alloc h1.size (.cells #[.int .i64 7, .int .i64 n, .int .i64 wd] 34))
       clear hb qz h1)
    | fail)
  obtain ⟨W1, hW1⟩ : ∃ W, W = w2.alloc (.cells #[.int .i64 7, .int .i64 n, .int .i64 wd] 34) := ⟨_, rfl⟩
  obtain ⟨p, hp⟩ : ∃ p, p = w2.heap.size := ⟨_, rfl⟩
  rw [← hp] at QP GP LZ ⊢
  rw [← hW1] at QZ QP HB ⊢
  clear hW1 hp
  have ne : p ≠ w.heap.size := by have := LZ.out; omega
  have ne' : w.heap.size ≠ p := by have := LZ.out; omega
  have NE := Aside0.mk ne
  have NE' := Aside0.mk ne'
  have c0 : W1.cell? ⟨p, 0, none⟩ = some (.int .i64 7) := (blk_cell QP.out 0).trans rfl
  have c1 : W1.cell? ⟨p, 1, none⟩ = some (.int .i64 n) := (blk_cell QP.out 1).trans rfl
  have c2 : W1.cell? ⟨p, 2, none⟩ = some (.int .i64 wd) := (blk_cell QP.out 2).trans rfl
  have f0 : W1.frozen? ⟨p, 0, none⟩ = false := blk_frozen QP.out 0
  have f1 : W1.frozen? ⟨p, 1, none⟩ = false := blk_frozen QP.out 1
  have f2 : W1.frozen? ⟨p, 2, none⟩ = false := blk_frozen QP.out 2
  have z0 : W1.cell? ⟨w.heap.size, 0, none⟩ = some (.int .i64 0) := (blk_cell QZ.out 0).trans rfl
  have z1 : W1.cell? ⟨w.heap.size, 1, none⟩ = some (.int .i64 0) := (blk_cell QZ.out 1).trans rfl
  have z2 : W1.cell? ⟨w.heap.size, 2, none⟩ = some (.int .i64 0) := (blk_cell QZ.out 2).trans rfl
  have fz0 : W1.frozen? ⟨w.heap.size, 0, none⟩ = false := blk_frozen QZ.out 0
  have fz1 : W1.frozen? ⟨w.heap.size, 1, none⟩ = false := blk_frozen QZ.out 1
  have fz2 : W1.frozen? ⟨w.heap.size, 2, none⟩ = false := blk_frozen QZ.out 2
  go_wp2
  have P := (blk_set (blk_set (blk_set (blk_far QZ.out (p := ⟨p, 0, none⟩) NE'.out (.int .i64 6)) 0 (.int .i64 6)) 1 (.int .i64 n)) 2 (.int .i64 wd))
  have k0 := (blk_cell P 0).trans rfl
  have k1 := (blk_cell P 1).trans rfl
  have k2 := (blk_cell P 2).trans rfl
  refine bodyPost_ret (v := .agg #[.int .i64 6, .int .i64 n, .int .i64 wd]) ?hr rfl ?_
  case hr =>
    clear P z0 z1 z2 fz0 fz1 fz2
    simp [results, Tryz.results10, go_sem, k0, k1, k2]
  exact ⟨rfl, (bset (bset (bset (bset HB.out GP.out 0 (.int .i64 6)) (by omega) 0 (.int .i64 6)) (by omega) 1 (.int .i64 n)) (by omega) 2 (.int .i64 wd))⟩
set_option maxRecDepth 100000 in
set_option maxHeartbeats 4000000 in
theorem find_D1 (op : Int) (w : World) (io : i64r op) (n wd : Int) (h : (139 ≤ op ∧ op < 153 ∧ n = op - 139 ∧ wd = 32) ∨ (153 ≤ op ∧ op < 167 ∧ n = op - 139 - 14 ∧ wd = 64)) (hn : ¬ n < 7) : Calls Tryz.prog 10 #[.int .i64 op] w fun e w' => e = .returned (.agg #[.int .i64 7, .int .i64 n, .int .i64 wd]) ∧ Below w.heap.size w w' := by
  have q0 := heap_alloc_new w (.cells #[.int .i64 0, .int .i64 0, .int .i64 0] 34)
  have h0 := below_alloc (Below.refl w.heap.size w) (.cells #[.int .i64 0, .int .i64 0, .int .i64 0] 34)
  obtain ⟨W0, hW0⟩ : ∃ W, W = w.alloc (.cells #[.int .i64 0, .int .i64 0, .int .i64 0] 34) := ⟨_, rfl⟩
  rw [← hW0] at q0 h0
  have QZ := Aside0.mk q0
  have HB := Aside0.mk h0
  have hW := Aside0.mk hW0
  clear q0 h0 hW0
  have C0 := Aside0.mk (fun W => first_no (op := op) (b := 69) (s := 11) (g := 2) W io (by decide) (by decide) (by omega))
  have C1 := Aside0.mk (fun W => first_no (op := op) (b := 91) (s := 6) (g := 3) W io (by decide) (by decide) (by omega))
  have C2 := Aside0.mk (fun W => first_no (op := op) (b := 103) (s := 18) (g := 5) W io (by decide) (by decide) (by omega))
  have CY := Aside0.mk (fun W => first_yes (op := op) (b := 139) (s := 14) (g := 7) W io (by decide) (by decide) n wd (by omega))
  have d : decide (n < 7) = false := decide_eq_false hn
  clear hn
  clear io h
  go_enter Tryz.func10, Tryz.ntmps10
  go_upto_region 1 with (fail)
  rw [← hW.out]
  clear hW
  go_upto_region 15 with (first
    | (go_at_call 27; (with_reducible refine (C0.out _).mono ?_)
       rintro e w1 ⟨rfl, hb⟩
       have qz := (hb.block _ (blk_lt QZ.out)).trans QZ.out
       have h1 := below_then HB.out HB.out.size hb
       have QZ := Aside0.mk ((heap_alloc_old (.cells #[.int .i64 0, .int .i64 0, .int .i64 0] 34) (blk_lt qz)).trans qz)
       have HB := Aside0.mk (h1.alloc h1.size (.cells #[.int .i64 0, .int .i64 0, .int .i64 0] 34))
       clear hb qz h1)
    | (go_at_call 27; (with_reducible refine (C1.out _).mono ?_)
       rintro e w1 ⟨rfl, hb⟩
       have qz := (hb.block _ (blk_lt QZ.out)).trans QZ.out
       have h1 := below_then HB.out HB.out.size hb
       have QZ := Aside0.mk ((heap_alloc_old (.cells #[.int .i64 0, .int .i64 0, .int .i64 0] 34) (blk_lt qz)).trans qz)
       have HB := Aside0.mk (h1.alloc h1.size (.cells #[.int .i64 0, .int .i64 0, .int .i64 0] 34))
       clear hb qz h1)
    | (go_at_call 27; (with_reducible refine (C2.out _).mono ?_)
       rintro e w1 ⟨rfl, hb⟩
       have qz := (hb.block _ (blk_lt QZ.out)).trans QZ.out
       have h1 := below_then HB.out HB.out.size hb
       have QZ := Aside0.mk ((heap_alloc_old (.cells #[.int .i64 0, .int .i64 0, .int .i64 0] 34) (blk_lt qz)).trans qz)
       have HB := Aside0.mk (h1.alloc h1.size (.cells #[.int .i64 0, .int .i64 0, .int .i64 0] 34))
       clear hb qz h1)
    | (go_at_call 27; (with_reducible refine (CY.out _).mono ?_)
       rintro e w2 ⟨rfl, hb⟩
       have qz := (hb.block _ (blk_lt QZ.out)).trans QZ.out
       have h1 := below_then HB.out HB.out.size hb
       have LZ := Aside0.mk (blk_lt qz)
       have GP := Aside0.mk h1.size
       have QZ := Aside0.mk ((heap_alloc_old (.cells #[.int .i64 7, .int .i64 n, .int .i64 wd] 34) (blk_lt qz)).trans qz)
       have QP := Aside0.mk (heap_alloc_new w2 (.cells #[.int .i64 7, .int .i64 n, .int .i64 wd] 34))
       have HB := Aside0.mk (h1.alloc h1.size (.cells #[.int .i64 7, .int .i64 n, .int .i64 wd] 34))
       clear hb qz h1)
    | fail)
  obtain ⟨W1, hW1⟩ : ∃ W, W = w2.alloc (.cells #[.int .i64 7, .int .i64 n, .int .i64 wd] 34) := ⟨_, rfl⟩
  obtain ⟨p, hp⟩ : ∃ p, p = w2.heap.size := ⟨_, rfl⟩
  rw [← hp] at QP GP LZ ⊢
  rw [← hW1] at QZ QP HB ⊢
  clear hW1 hp
  have ne : p ≠ w.heap.size := by have := LZ.out; omega
  have ne' : w.heap.size ≠ p := by have := LZ.out; omega
  have NE := Aside0.mk ne
  have NE' := Aside0.mk ne'
  have c0 : W1.cell? ⟨p, 0, none⟩ = some (.int .i64 7) := (blk_cell QP.out 0).trans rfl
  have c1 : W1.cell? ⟨p, 1, none⟩ = some (.int .i64 n) := (blk_cell QP.out 1).trans rfl
  have c2 : W1.cell? ⟨p, 2, none⟩ = some (.int .i64 wd) := (blk_cell QP.out 2).trans rfl
  have f0 : W1.frozen? ⟨p, 0, none⟩ = false := blk_frozen QP.out 0
  have f1 : W1.frozen? ⟨p, 1, none⟩ = false := blk_frozen QP.out 1
  have f2 : W1.frozen? ⟨p, 2, none⟩ = false := blk_frozen QP.out 2
  have z0 : W1.cell? ⟨w.heap.size, 0, none⟩ = some (.int .i64 0) := (blk_cell QZ.out 0).trans rfl
  have z1 : W1.cell? ⟨w.heap.size, 1, none⟩ = some (.int .i64 0) := (blk_cell QZ.out 1).trans rfl
  have z2 : W1.cell? ⟨w.heap.size, 2, none⟩ = some (.int .i64 0) := (blk_cell QZ.out 2).trans rfl
  have fz0 : W1.frozen? ⟨w.heap.size, 0, none⟩ = false := blk_frozen QZ.out 0
  have fz1 : W1.frozen? ⟨w.heap.size, 1, none⟩ = false := blk_frozen QZ.out 1
  have fz2 : W1.frozen? ⟨w.heap.size, 2, none⟩ = false := blk_frozen QZ.out 2
  go_wp2
  have P := (blk_set (blk_set (blk_set QZ.out 0 (.int .i64 7)) 1 (.int .i64 n)) 2 (.int .i64 wd))
  have k0 := (blk_cell P 0).trans rfl
  have k1 := (blk_cell P 1).trans rfl
  have k2 := (blk_cell P 2).trans rfl
  refine bodyPost_ret (v := .agg #[.int .i64 7, .int .i64 n, .int .i64 wd]) ?hr rfl ?_
  case hr =>
    clear P z0 z1 z2 fz0 fz1 fz2
    simp [results, Tryz.results10, go_sem, k0, k1, k2]
  exact ⟨rfl, (bset (bset (bset HB.out (by omega) 0 (.int .i64 7)) (by omega) 1 (.int .i64 n)) (by omega) 2 (.int .i64 wd))⟩
set_option maxRecDepth 100000 in
set_option maxHeartbeats 4000000 in
theorem find_E (op : Int) (w : World) (io : i64r op) (n : Int) (h : 167 ≤ op ∧ op ≤ 191 ∧ n = op - 167) : Calls Tryz.prog 10 #[.int .i64 op] w fun e w' => e = .returned (.agg #[.int .i64 8, .int .i64 n, .int .i64 0]) ∧ Below w.heap.size w w' := by
  have q0 := heap_alloc_new w (.cells #[.int .i64 0, .int .i64 0, .int .i64 0] 34)
  have h0 := below_alloc (Below.refl w.heap.size w) (.cells #[.int .i64 0, .int .i64 0, .int .i64 0] 34)
  obtain ⟨W0, hW0⟩ : ∃ W, W = w.alloc (.cells #[.int .i64 0, .int .i64 0, .int .i64 0] 34) := ⟨_, rfl⟩
  rw [← hW0] at q0 h0
  have QZ := Aside0.mk q0
  have HB := Aside0.mk h0
  have hW := Aside0.mk hW0
  clear q0 h0 hW0
  have C0 := Aside0.mk (fun W => first_no (op := op) (b := 69) (s := 11) (g := 2) W io (by decide) (by decide) (by omega))
  have C1 := Aside0.mk (fun W => first_no (op := op) (b := 91) (s := 6) (g := 3) W io (by decide) (by decide) (by omega))
  have C2 := Aside0.mk (fun W => first_no (op := op) (b := 103) (s := 18) (g := 5) W io (by decide) (by decide) (by omega))
  have C3 := Aside0.mk (fun W => first_no (op := op) (b := 139) (s := 14) (g := 7) W io (by decide) (by decide) (by omega))
  have d1 : decide (op ≥ 167) = true := decide_eq_true (by omega)
  have d2 : decide (op ≤ 191) = true := decide_eq_true (by omega)
  have en : IntKind.i64.wrap (op - 167) = n := by rw [IntKind.wrap_i64]; omega
  clear io h
  go_enter Tryz.func10, Tryz.ntmps10
  go_upto_region 1 with (fail)
  rw [← hW.out]
  clear hW
  go_upto_region 19 with (first
    | (go_at_call 27; (with_reducible refine (C0.out _).mono ?_)
       rintro e w1 ⟨rfl, hb⟩
       have qz := (hb.block _ (blk_lt QZ.out)).trans QZ.out
       have h1 := below_then HB.out HB.out.size hb
       have QZ := Aside0.mk ((heap_alloc_old (.cells #[.int .i64 0, .int .i64 0, .int .i64 0] 34) (blk_lt qz)).trans qz)
       have HB := Aside0.mk (h1.alloc h1.size (.cells #[.int .i64 0, .int .i64 0, .int .i64 0] 34))
       clear hb qz h1)
    | (go_at_call 27; (with_reducible refine (C1.out _).mono ?_)
       rintro e w1 ⟨rfl, hb⟩
       have qz := (hb.block _ (blk_lt QZ.out)).trans QZ.out
       have h1 := below_then HB.out HB.out.size hb
       have QZ := Aside0.mk ((heap_alloc_old (.cells #[.int .i64 0, .int .i64 0, .int .i64 0] 34) (blk_lt qz)).trans qz)
       have HB := Aside0.mk (h1.alloc h1.size (.cells #[.int .i64 0, .int .i64 0, .int .i64 0] 34))
       clear hb qz h1)
    | (go_at_call 27; (with_reducible refine (C2.out _).mono ?_)
       rintro e w1 ⟨rfl, hb⟩
       have qz := (hb.block _ (blk_lt QZ.out)).trans QZ.out
       have h1 := below_then HB.out HB.out.size hb
       have QZ := Aside0.mk ((heap_alloc_old (.cells #[.int .i64 0, .int .i64 0, .int .i64 0] 34) (blk_lt qz)).trans qz)
       have HB := Aside0.mk (h1.alloc h1.size (.cells #[.int .i64 0, .int .i64 0, .int .i64 0] 34))
       clear hb qz h1)
    | (go_at_call 27; (with_reducible refine (C3.out _).mono ?_)
       rintro e w1 ⟨rfl, hb⟩
       have qz := (hb.block _ (blk_lt QZ.out)).trans QZ.out
       have h1 := below_then HB.out HB.out.size hb
       have QZ := Aside0.mk ((heap_alloc_old (.cells #[.int .i64 0, .int .i64 0, .int .i64 0] 34) (blk_lt qz)).trans qz)
       have HB := Aside0.mk (h1.alloc h1.size (.cells #[.int .i64 0, .int .i64 0, .int .i64 0] 34))
       clear hb qz h1)
    | fail)
  obtain ⟨W1, hW1⟩ : ∃ W, W = w1.alloc (.cells #[.int .i64 0, .int .i64 0, .int .i64 0] 34) := ⟨_, rfl⟩
  rw [← hW1] at QZ HB ⊢
  clear hW1
  have z0 : W1.cell? ⟨w.heap.size, 0, none⟩ = some (.int .i64 0) := (blk_cell QZ.out 0).trans rfl
  have z1 : W1.cell? ⟨w.heap.size, 1, none⟩ = some (.int .i64 0) := (blk_cell QZ.out 1).trans rfl
  have z2 : W1.cell? ⟨w.heap.size, 2, none⟩ = some (.int .i64 0) := (blk_cell QZ.out 2).trans rfl
  have fz0 : W1.frozen? ⟨w.heap.size, 0, none⟩ = false := blk_frozen QZ.out 0
  have fz1 : W1.frozen? ⟨w.heap.size, 1, none⟩ = false := blk_frozen QZ.out 1
  have fz2 : W1.frozen? ⟨w.heap.size, 2, none⟩ = false := blk_frozen QZ.out 2
  go_wp2
  have P := (blk_set (blk_set (blk_set QZ.out 0 (.int .i64 8)) 1 (.int .i64 n)) 2 (.int .i64 0))
  have k0 := (blk_cell P 0).trans rfl
  have k1 := (blk_cell P 1).trans rfl
  have k2 := (blk_cell P 2).trans rfl
  refine bodyPost_ret (v := .agg #[.int .i64 8, .int .i64 n, .int .i64 0]) ?hr rfl ?_
  case hr =>
    clear P z0 z1 z2 fz0 fz1 fz2
    simp [results, Tryz.results10, go_sem, k0, k1, k2]
  exact ⟨rfl, (bset (bset (bset HB.out (by omega) 0 (.int .i64 8)) (by omega) 1 (.int .i64 n)) (by omega) 2 (.int .i64 0))⟩
set_option maxRecDepth 100000 in
set_option maxHeartbeats 4000000 in
theorem find_F (op : Int) (w : World) (io : i64r op) (n : Int) (h : 64512 ≤ op ∧ op < 64520 ∧ n = op - 64512) : Calls Tryz.prog 10 #[.int .i64 op] w fun e w' => e = .returned (.agg #[.int .i64 9, .int .i64 n, .int .i64 0]) ∧ Below w.heap.size w w' := by
  have q0 := heap_alloc_new w (.cells #[.int .i64 0, .int .i64 0, .int .i64 0] 34)
  have h0 := below_alloc (Below.refl w.heap.size w) (.cells #[.int .i64 0, .int .i64 0, .int .i64 0] 34)
  obtain ⟨W0, hW0⟩ : ∃ W, W = w.alloc (.cells #[.int .i64 0, .int .i64 0, .int .i64 0] 34) := ⟨_, rfl⟩
  rw [← hW0] at q0 h0
  have QZ := Aside0.mk q0
  have HB := Aside0.mk h0
  have hW := Aside0.mk hW0
  clear q0 h0 hW0
  have C0 := Aside0.mk (fun W => first_no (op := op) (b := 69) (s := 11) (g := 2) W io (by decide) (by decide) (by omega))
  have C1 := Aside0.mk (fun W => first_no (op := op) (b := 91) (s := 6) (g := 3) W io (by decide) (by decide) (by omega))
  have C2 := Aside0.mk (fun W => first_no (op := op) (b := 103) (s := 18) (g := 5) W io (by decide) (by decide) (by omega))
  have C3 := Aside0.mk (fun W => first_no (op := op) (b := 139) (s := 14) (g := 7) W io (by decide) (by decide) (by omega))
  have d1 : decide (op ≥ 167) = true := decide_eq_true (by omega)
  have d2 : decide (op ≤ 191) = false := decide_eq_false (by omega)
  have d3 : decide (op ≥ 64512) = true := decide_eq_true (by omega)
  have d4 : decide (op < 64520) = true := decide_eq_true (by omega)
  have en : IntKind.i64.wrap (op - 64512) = n := by rw [IntKind.wrap_i64]; omega
  clear io h
  go_enter Tryz.func10, Tryz.ntmps10
  go_upto_region 1 with (fail)
  rw [← hW.out]
  clear hW
  go_upto_region 19 with (first
    | (go_at_call 27; (with_reducible refine (C0.out _).mono ?_)
       rintro e w1 ⟨rfl, hb⟩
       have qz := (hb.block _ (blk_lt QZ.out)).trans QZ.out
       have h1 := below_then HB.out HB.out.size hb
       have QZ := Aside0.mk ((heap_alloc_old (.cells #[.int .i64 0, .int .i64 0, .int .i64 0] 34) (blk_lt qz)).trans qz)
       have HB := Aside0.mk (h1.alloc h1.size (.cells #[.int .i64 0, .int .i64 0, .int .i64 0] 34))
       clear hb qz h1)
    | (go_at_call 27; (with_reducible refine (C1.out _).mono ?_)
       rintro e w1 ⟨rfl, hb⟩
       have qz := (hb.block _ (blk_lt QZ.out)).trans QZ.out
       have h1 := below_then HB.out HB.out.size hb
       have QZ := Aside0.mk ((heap_alloc_old (.cells #[.int .i64 0, .int .i64 0, .int .i64 0] 34) (blk_lt qz)).trans qz)
       have HB := Aside0.mk (h1.alloc h1.size (.cells #[.int .i64 0, .int .i64 0, .int .i64 0] 34))
       clear hb qz h1)
    | (go_at_call 27; (with_reducible refine (C2.out _).mono ?_)
       rintro e w1 ⟨rfl, hb⟩
       have qz := (hb.block _ (blk_lt QZ.out)).trans QZ.out
       have h1 := below_then HB.out HB.out.size hb
       have QZ := Aside0.mk ((heap_alloc_old (.cells #[.int .i64 0, .int .i64 0, .int .i64 0] 34) (blk_lt qz)).trans qz)
       have HB := Aside0.mk (h1.alloc h1.size (.cells #[.int .i64 0, .int .i64 0, .int .i64 0] 34))
       clear hb qz h1)
    | (go_at_call 27; (with_reducible refine (C3.out _).mono ?_)
       rintro e w1 ⟨rfl, hb⟩
       have qz := (hb.block _ (blk_lt QZ.out)).trans QZ.out
       have h1 := below_then HB.out HB.out.size hb
       have QZ := Aside0.mk ((heap_alloc_old (.cells #[.int .i64 0, .int .i64 0, .int .i64 0] 34) (blk_lt qz)).trans qz)
       have HB := Aside0.mk (h1.alloc h1.size (.cells #[.int .i64 0, .int .i64 0, .int .i64 0] 34))
       clear hb qz h1)
    | fail)
  obtain ⟨W1, hW1⟩ : ∃ W, W = w1.alloc (.cells #[.int .i64 0, .int .i64 0, .int .i64 0] 34) := ⟨_, rfl⟩
  rw [← hW1] at QZ HB ⊢
  clear hW1
  have z0 : W1.cell? ⟨w.heap.size, 0, none⟩ = some (.int .i64 0) := (blk_cell QZ.out 0).trans rfl
  have z1 : W1.cell? ⟨w.heap.size, 1, none⟩ = some (.int .i64 0) := (blk_cell QZ.out 1).trans rfl
  have z2 : W1.cell? ⟨w.heap.size, 2, none⟩ = some (.int .i64 0) := (blk_cell QZ.out 2).trans rfl
  have fz0 : W1.frozen? ⟨w.heap.size, 0, none⟩ = false := blk_frozen QZ.out 0
  have fz1 : W1.frozen? ⟨w.heap.size, 1, none⟩ = false := blk_frozen QZ.out 1
  have fz2 : W1.frozen? ⟨w.heap.size, 2, none⟩ = false := blk_frozen QZ.out 2
  go_wp2
  have P := (blk_set (blk_set (blk_set QZ.out 0 (.int .i64 9)) 1 (.int .i64 n)) 2 (.int .i64 0))
  have k0 := (blk_cell P 0).trans rfl
  have k1 := (blk_cell P 1).trans rfl
  have k2 := (blk_cell P 2).trans rfl
  refine bodyPost_ret (v := .agg #[.int .i64 9, .int .i64 n, .int .i64 0]) ?hr rfl ?_
  case hr =>
    clear P z0 z1 z2 fz0 fz1 fz2
    simp [results, Tryz.results10, go_sem, k0, k1, k2]
  exact ⟨rfl, (bset (bset (bset HB.out (by omega) 0 (.int .i64 9)) (by omega) 1 (.int .i64 n)) (by omega) 2 (.int .i64 0))⟩
set_option maxRecDepth 100000 in
set_option maxHeartbeats 4000000 in
theorem find_G1 (op : Int) (w : World) (io : i64r op) (h : op < 69) : Calls Tryz.prog 10 #[.int .i64 op] w fun e w' => e = .returned (.agg #[.int .i64 0, .int .i64 0, .int .i64 0]) ∧ Below w.heap.size w w' := by
  have q0 := heap_alloc_new w (.cells #[.int .i64 0, .int .i64 0, .int .i64 0] 34)
  have h0 := below_alloc (Below.refl w.heap.size w) (.cells #[.int .i64 0, .int .i64 0, .int .i64 0] 34)
  obtain ⟨W0, hW0⟩ : ∃ W, W = w.alloc (.cells #[.int .i64 0, .int .i64 0, .int .i64 0] 34) := ⟨_, rfl⟩
  rw [← hW0] at q0 h0
  have QZ := Aside0.mk q0
  have HB := Aside0.mk h0
  have hW := Aside0.mk hW0
  clear q0 h0 hW0
  have C0 := Aside0.mk (fun W => first_no (op := op) (b := 69) (s := 11) (g := 2) W io (by decide) (by decide) (by omega))
  have C1 := Aside0.mk (fun W => first_no (op := op) (b := 91) (s := 6) (g := 3) W io (by decide) (by decide) (by omega))
  have C2 := Aside0.mk (fun W => first_no (op := op) (b := 103) (s := 18) (g := 5) W io (by decide) (by decide) (by omega))
  have C3 := Aside0.mk (fun W => first_no (op := op) (b := 139) (s := 14) (g := 7) W io (by decide) (by decide) (by omega))
  have d1 : decide (op ≥ 167) = false := decide_eq_false (by omega)
  have d3 : decide (op ≥ 64512) = false := decide_eq_false (by omega)
  clear io h
  go_enter Tryz.func10, Tryz.ntmps10
  go_upto_region 1 with (fail)
  rw [← hW.out]
  clear hW
  go_upto_region 19 with (first
    | (go_at_call 27; (with_reducible refine (C0.out _).mono ?_)
       rintro e w1 ⟨rfl, hb⟩
       have qz := (hb.block _ (blk_lt QZ.out)).trans QZ.out
       have h1 := below_then HB.out HB.out.size hb
       have QZ := Aside0.mk ((heap_alloc_old (.cells #[.int .i64 0, .int .i64 0, .int .i64 0] 34) (blk_lt qz)).trans qz)
       have HB := Aside0.mk (h1.alloc h1.size (.cells #[.int .i64 0, .int .i64 0, .int .i64 0] 34))
       clear hb qz h1)
    | (go_at_call 27; (with_reducible refine (C1.out _).mono ?_)
       rintro e w1 ⟨rfl, hb⟩
       have qz := (hb.block _ (blk_lt QZ.out)).trans QZ.out
       have h1 := below_then HB.out HB.out.size hb
       have QZ := Aside0.mk ((heap_alloc_old (.cells #[.int .i64 0, .int .i64 0, .int .i64 0] 34) (blk_lt qz)).trans qz)
       have HB := Aside0.mk (h1.alloc h1.size (.cells #[.int .i64 0, .int .i64 0, .int .i64 0] 34))
       clear hb qz h1)
    | (go_at_call 27; (with_reducible refine (C2.out _).mono ?_)
       rintro e w1 ⟨rfl, hb⟩
       have qz := (hb.block _ (blk_lt QZ.out)).trans QZ.out
       have h1 := below_then HB.out HB.out.size hb
       have QZ := Aside0.mk ((heap_alloc_old (.cells #[.int .i64 0, .int .i64 0, .int .i64 0] 34) (blk_lt qz)).trans qz)
       have HB := Aside0.mk (h1.alloc h1.size (.cells #[.int .i64 0, .int .i64 0, .int .i64 0] 34))
       clear hb qz h1)
    | (go_at_call 27; (with_reducible refine (C3.out _).mono ?_)
       rintro e w1 ⟨rfl, hb⟩
       have qz := (hb.block _ (blk_lt QZ.out)).trans QZ.out
       have h1 := below_then HB.out HB.out.size hb
       have QZ := Aside0.mk ((heap_alloc_old (.cells #[.int .i64 0, .int .i64 0, .int .i64 0] 34) (blk_lt qz)).trans qz)
       have HB := Aside0.mk (h1.alloc h1.size (.cells #[.int .i64 0, .int .i64 0, .int .i64 0] 34))
       clear hb qz h1)
    | fail)
  obtain ⟨W1, hW1⟩ : ∃ W, W = w1.alloc (.cells #[.int .i64 0, .int .i64 0, .int .i64 0] 34) := ⟨_, rfl⟩
  rw [← hW1] at QZ HB ⊢
  clear hW1
  have z0 : W1.cell? ⟨w.heap.size, 0, none⟩ = some (.int .i64 0) := (blk_cell QZ.out 0).trans rfl
  have z1 : W1.cell? ⟨w.heap.size, 1, none⟩ = some (.int .i64 0) := (blk_cell QZ.out 1).trans rfl
  have z2 : W1.cell? ⟨w.heap.size, 2, none⟩ = some (.int .i64 0) := (blk_cell QZ.out 2).trans rfl
  have fz0 : W1.frozen? ⟨w.heap.size, 0, none⟩ = false := blk_frozen QZ.out 0
  have fz1 : W1.frozen? ⟨w.heap.size, 1, none⟩ = false := blk_frozen QZ.out 1
  have fz2 : W1.frozen? ⟨w.heap.size, 2, none⟩ = false := blk_frozen QZ.out 2
  go_wp2
  have P := (blk_set (blk_set (blk_set QZ.out 0 (.int .i64 0)) 1 (.int .i64 0)) 2 (.int .i64 0))
  have k0 := (blk_cell P 0).trans rfl
  have k1 := (blk_cell P 1).trans rfl
  have k2 := (blk_cell P 2).trans rfl
  refine bodyPost_ret (v := .agg #[.int .i64 0, .int .i64 0, .int .i64 0]) ?hr rfl ?_
  case hr =>
    clear P z0 z1 z2 fz0 fz1 fz2
    simp [results, Tryz.results10, go_sem, k0, k1, k2]
  exact ⟨rfl, (bset (bset (bset HB.out (by omega) 0 (.int .i64 0)) (by omega) 1 (.int .i64 0)) (by omega) 2 (.int .i64 0))⟩
set_option maxRecDepth 100000 in
set_option maxHeartbeats 4000000 in
theorem find_G2 (op : Int) (w : World) (io : i64r op) (h : 191 < op ∧ op < 64512) : Calls Tryz.prog 10 #[.int .i64 op] w fun e w' => e = .returned (.agg #[.int .i64 0, .int .i64 0, .int .i64 0]) ∧ Below w.heap.size w w' := by
  have q0 := heap_alloc_new w (.cells #[.int .i64 0, .int .i64 0, .int .i64 0] 34)
  have h0 := below_alloc (Below.refl w.heap.size w) (.cells #[.int .i64 0, .int .i64 0, .int .i64 0] 34)
  obtain ⟨W0, hW0⟩ : ∃ W, W = w.alloc (.cells #[.int .i64 0, .int .i64 0, .int .i64 0] 34) := ⟨_, rfl⟩
  rw [← hW0] at q0 h0
  have QZ := Aside0.mk q0
  have HB := Aside0.mk h0
  have hW := Aside0.mk hW0
  clear q0 h0 hW0
  have C0 := Aside0.mk (fun W => first_no (op := op) (b := 69) (s := 11) (g := 2) W io (by decide) (by decide) (by omega))
  have C1 := Aside0.mk (fun W => first_no (op := op) (b := 91) (s := 6) (g := 3) W io (by decide) (by decide) (by omega))
  have C2 := Aside0.mk (fun W => first_no (op := op) (b := 103) (s := 18) (g := 5) W io (by decide) (by decide) (by omega))
  have C3 := Aside0.mk (fun W => first_no (op := op) (b := 139) (s := 14) (g := 7) W io (by decide) (by decide) (by omega))
  have d1 : decide (op ≥ 167) = true := decide_eq_true (by omega)
  have d2 : decide (op ≤ 191) = false := decide_eq_false (by omega)
  have d3 : decide (op ≥ 64512) = false := decide_eq_false (by omega)
  clear io h
  go_enter Tryz.func10, Tryz.ntmps10
  go_upto_region 1 with (fail)
  rw [← hW.out]
  clear hW
  go_upto_region 19 with (first
    | (go_at_call 27; (with_reducible refine (C0.out _).mono ?_)
       rintro e w1 ⟨rfl, hb⟩
       have qz := (hb.block _ (blk_lt QZ.out)).trans QZ.out
       have h1 := below_then HB.out HB.out.size hb
       have QZ := Aside0.mk ((heap_alloc_old (.cells #[.int .i64 0, .int .i64 0, .int .i64 0] 34) (blk_lt qz)).trans qz)
       have HB := Aside0.mk (h1.alloc h1.size (.cells #[.int .i64 0, .int .i64 0, .int .i64 0] 34))
       clear hb qz h1)
    | (go_at_call 27; (with_reducible refine (C1.out _).mono ?_)
       rintro e w1 ⟨rfl, hb⟩
       have qz := (hb.block _ (blk_lt QZ.out)).trans QZ.out
       have h1 := below_then HB.out HB.out.size hb
       have QZ := Aside0.mk ((heap_alloc_old (.cells #[.int .i64 0, .int .i64 0, .int .i64 0] 34) (blk_lt qz)).trans qz)
       have HB := Aside0.mk (h1.alloc h1.size (.cells #[.int .i64 0, .int .i64 0, .int .i64 0] 34))
       clear hb qz h1)
    | (go_at_call 27; (with_reducible refine (C2.out _).mono ?_)
       rintro e w1 ⟨rfl, hb⟩
       have qz := (hb.block _ (blk_lt QZ.out)).trans QZ.out
       have h1 := below_then HB.out HB.out.size hb
       have QZ := Aside0.mk ((heap_alloc_old (.cells #[.int .i64 0, .int .i64 0, .int .i64 0] 34) (blk_lt qz)).trans qz)
       have HB := Aside0.mk (h1.alloc h1.size (.cells #[.int .i64 0, .int .i64 0, .int .i64 0] 34))
       clear hb qz h1)
    | (go_at_call 27; (with_reducible refine (C3.out _).mono ?_)
       rintro e w1 ⟨rfl, hb⟩
       have qz := (hb.block _ (blk_lt QZ.out)).trans QZ.out
       have h1 := below_then HB.out HB.out.size hb
       have QZ := Aside0.mk ((heap_alloc_old (.cells #[.int .i64 0, .int .i64 0, .int .i64 0] 34) (blk_lt qz)).trans qz)
       have HB := Aside0.mk (h1.alloc h1.size (.cells #[.int .i64 0, .int .i64 0, .int .i64 0] 34))
       clear hb qz h1)
    | fail)
  obtain ⟨W1, hW1⟩ : ∃ W, W = w1.alloc (.cells #[.int .i64 0, .int .i64 0, .int .i64 0] 34) := ⟨_, rfl⟩
  rw [← hW1] at QZ HB ⊢
  clear hW1
  have z0 : W1.cell? ⟨w.heap.size, 0, none⟩ = some (.int .i64 0) := (blk_cell QZ.out 0).trans rfl
  have z1 : W1.cell? ⟨w.heap.size, 1, none⟩ = some (.int .i64 0) := (blk_cell QZ.out 1).trans rfl
  have z2 : W1.cell? ⟨w.heap.size, 2, none⟩ = some (.int .i64 0) := (blk_cell QZ.out 2).trans rfl
  have fz0 : W1.frozen? ⟨w.heap.size, 0, none⟩ = false := blk_frozen QZ.out 0
  have fz1 : W1.frozen? ⟨w.heap.size, 1, none⟩ = false := blk_frozen QZ.out 1
  have fz2 : W1.frozen? ⟨w.heap.size, 2, none⟩ = false := blk_frozen QZ.out 2
  go_wp2
  have P := (blk_set (blk_set (blk_set QZ.out 0 (.int .i64 0)) 1 (.int .i64 0)) 2 (.int .i64 0))
  have k0 := (blk_cell P 0).trans rfl
  have k1 := (blk_cell P 1).trans rfl
  have k2 := (blk_cell P 2).trans rfl
  refine bodyPost_ret (v := .agg #[.int .i64 0, .int .i64 0, .int .i64 0]) ?hr rfl ?_
  case hr =>
    clear P z0 z1 z2 fz0 fz1 fz2
    simp [results, Tryz.results10, go_sem, k0, k1, k2]
  exact ⟨rfl, (bset (bset (bset HB.out (by omega) 0 (.int .i64 0)) (by omega) 1 (.int .i64 0)) (by omega) 2 (.int .i64 0))⟩
set_option maxRecDepth 100000 in
set_option maxHeartbeats 4000000 in
theorem find_G3 (op : Int) (w : World) (io : i64r op) (h : 64520 ≤ op) : Calls Tryz.prog 10 #[.int .i64 op] w fun e w' => e = .returned (.agg #[.int .i64 0, .int .i64 0, .int .i64 0]) ∧ Below w.heap.size w w' := by
  have q0 := heap_alloc_new w (.cells #[.int .i64 0, .int .i64 0, .int .i64 0] 34)
  have h0 := below_alloc (Below.refl w.heap.size w) (.cells #[.int .i64 0, .int .i64 0, .int .i64 0] 34)
  obtain ⟨W0, hW0⟩ : ∃ W, W = w.alloc (.cells #[.int .i64 0, .int .i64 0, .int .i64 0] 34) := ⟨_, rfl⟩
  rw [← hW0] at q0 h0
  have QZ := Aside0.mk q0
  have HB := Aside0.mk h0
  have hW := Aside0.mk hW0
  clear q0 h0 hW0
  have C0 := Aside0.mk (fun W => first_no (op := op) (b := 69) (s := 11) (g := 2) W io (by decide) (by decide) (by omega))
  have C1 := Aside0.mk (fun W => first_no (op := op) (b := 91) (s := 6) (g := 3) W io (by decide) (by decide) (by omega))
  have C2 := Aside0.mk (fun W => first_no (op := op) (b := 103) (s := 18) (g := 5) W io (by decide) (by decide) (by omega))
  have C3 := Aside0.mk (fun W => first_no (op := op) (b := 139) (s := 14) (g := 7) W io (by decide) (by decide) (by omega))
  have d1 : decide (op ≥ 167) = true := decide_eq_true (by omega)
  have d2 : decide (op ≤ 191) = false := decide_eq_false (by omega)
  have d3 : decide (op ≥ 64512) = true := decide_eq_true (by omega)
  have d4 : decide (op < 64520) = false := decide_eq_false (by omega)
  clear io h
  go_enter Tryz.func10, Tryz.ntmps10
  go_upto_region 1 with (fail)
  rw [← hW.out]
  clear hW
  go_upto_region 19 with (first
    | (go_at_call 27; (with_reducible refine (C0.out _).mono ?_)
       rintro e w1 ⟨rfl, hb⟩
       have qz := (hb.block _ (blk_lt QZ.out)).trans QZ.out
       have h1 := below_then HB.out HB.out.size hb
       have QZ := Aside0.mk ((heap_alloc_old (.cells #[.int .i64 0, .int .i64 0, .int .i64 0] 34) (blk_lt qz)).trans qz)
       have HB := Aside0.mk (h1.alloc h1.size (.cells #[.int .i64 0, .int .i64 0, .int .i64 0] 34))
       clear hb qz h1)
    | (go_at_call 27; (with_reducible refine (C1.out _).mono ?_)
       rintro e w1 ⟨rfl, hb⟩
       have qz := (hb.block _ (blk_lt QZ.out)).trans QZ.out
       have h1 := below_then HB.out HB.out.size hb
       have QZ := Aside0.mk ((heap_alloc_old (.cells #[.int .i64 0, .int .i64 0, .int .i64 0] 34) (blk_lt qz)).trans qz)
       have HB := Aside0.mk (h1.alloc h1.size (.cells #[.int .i64 0, .int .i64 0, .int .i64 0] 34))
       clear hb qz h1)
    | (go_at_call 27; (with_reducible refine (C2.out _).mono ?_)
       rintro e w1 ⟨rfl, hb⟩
       have qz := (hb.block _ (blk_lt QZ.out)).trans QZ.out
       have h1 := below_then HB.out HB.out.size hb
       have QZ := Aside0.mk ((heap_alloc_old (.cells #[.int .i64 0, .int .i64 0, .int .i64 0] 34) (blk_lt qz)).trans qz)
       have HB := Aside0.mk (h1.alloc h1.size (.cells #[.int .i64 0, .int .i64 0, .int .i64 0] 34))
       clear hb qz h1)
    | (go_at_call 27; (with_reducible refine (C3.out _).mono ?_)
       rintro e w1 ⟨rfl, hb⟩
       have qz := (hb.block _ (blk_lt QZ.out)).trans QZ.out
       have h1 := below_then HB.out HB.out.size hb
       have QZ := Aside0.mk ((heap_alloc_old (.cells #[.int .i64 0, .int .i64 0, .int .i64 0] 34) (blk_lt qz)).trans qz)
       have HB := Aside0.mk (h1.alloc h1.size (.cells #[.int .i64 0, .int .i64 0, .int .i64 0] 34))
       clear hb qz h1)
    | fail)
  obtain ⟨W1, hW1⟩ : ∃ W, W = w1.alloc (.cells #[.int .i64 0, .int .i64 0, .int .i64 0] 34) := ⟨_, rfl⟩
  rw [← hW1] at QZ HB ⊢
  clear hW1
  have z0 : W1.cell? ⟨w.heap.size, 0, none⟩ = some (.int .i64 0) := (blk_cell QZ.out 0).trans rfl
  have z1 : W1.cell? ⟨w.heap.size, 1, none⟩ = some (.int .i64 0) := (blk_cell QZ.out 1).trans rfl
  have z2 : W1.cell? ⟨w.heap.size, 2, none⟩ = some (.int .i64 0) := (blk_cell QZ.out 2).trans rfl
  have fz0 : W1.frozen? ⟨w.heap.size, 0, none⟩ = false := blk_frozen QZ.out 0
  have fz1 : W1.frozen? ⟨w.heap.size, 1, none⟩ = false := blk_frozen QZ.out 1
  have fz2 : W1.frozen? ⟨w.heap.size, 2, none⟩ = false := blk_frozen QZ.out 2
  go_wp2
  have P := (blk_set (blk_set (blk_set QZ.out 0 (.int .i64 0)) 1 (.int .i64 0)) 2 (.int .i64 0))
  have k0 := (blk_cell P 0).trans rfl
  have k1 := (blk_cell P 1).trans rfl
  have k2 := (blk_cell P 2).trans rfl
  refine bodyPost_ret (v := .agg #[.int .i64 0, .int .i64 0, .int .i64 0]) ?hr rfl ?_
  case hr =>
    clear P z0 z1 z2 fz0 fz1 fz2
    simp [results, Tryz.results10, go_sem, k0, k1, k2]
  exact ⟨rfl, (bset (bset (bset HB.out (by omega) 0 (.int .i64 0)) (by omega) 1 (.int .i64 0)) (by omega) 2 (.int .i64 0))⟩
end Go.Proofs.YticonaahlplbjaaGreatDoor.Tn
