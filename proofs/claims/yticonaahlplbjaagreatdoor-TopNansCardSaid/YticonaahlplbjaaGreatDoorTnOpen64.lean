/- The walk of shape.Open at a width: parts of a float. -/
import Derived.Test.YticonaahlplbjaaGreatDoorTnShape
namespace Go.Proofs.YticonaahlplbjaaGreatDoor.Tn
open Go.RowKit Go.Proofs.YticonaahlplbjaaGreatDoorW.PrintWords Go.Proofs.YticonaahlplbjaaGreatDoorW.PrintLast Go.Proofs.YticonaahlplbjaaGreatDoorW.PrintMore
set_option linter.unusedVariables false
set_option linter.unusedSimpArgs false
set_option maxRecDepth 100000 in
set_option maxHeartbeats 4000000 in
theorem Open64nan (n : Int) (w : World) (h0 : 0 ≤ n) (h1 : n < 18446744073709551616) (xf : Int) (he : n / 4503599627370496 % 2048 = 2047) (hf : n % 4503599627370496 = xf) (hn : ¬ xf = 0) :
    Calls Tryz.prog 23 #[.int .i64 64, .int .u64 n] w fun e w' => (∃ neg : Bool, e = .returned (.agg #[.bool false, .int .i64 3, .int .i64 0, .int .u64 0])) ∧ Below w.heap.size w w' := by
  have wr0 : IntKind.u64.wrap 4503599627370496 = 4503599627370496 := by decide
  have R00 := heap_alloc_new w (.cells #[.bool false, .int .i64 0, .int .i64 0, .int .u64 0] 46)
  have SP := Aside0.mk (fun (W : World) => split64 n W h0 h1)
  rw [he, hf] at SP
  have B0 := Aside0.mk (below_alloc (Below.refl w.heap.size w) (.cells #[.bool false, .int .i64 0, .int .i64 0, .int .u64 0] 46))
  have RR := Aside0.mk R00
  clear he hf h0 h1 R00
  go_enter Tryz.func23, Tryz.ntmps23
  go_wp2_with (first
    | (go_at_call 24; refine (of64 _).mono ?_; rintro e w1 ⟨rfl, hb⟩; have HB1 := Aside0.mk ((below_then B0.out (by rw [World.size_alloc]; omega) hb).alloc (below_then B0.out (by rw [World.size_alloc]; omega) hb).size (.cells #[.int .i64 11, .int .i64 52] 49)); have r1 := (hb.block _ (blk_lt RR.out)).trans RR.out; have R1 := Aside0.mk ((heap_alloc_old (.cells #[.int .i64 11, .int .i64 52] 49) (blk_lt r1)).trans r1); clear hb r1)
    | (go_at_call 65; refine (SP.out _).mono ?_; rintro e w2 ⟨⟨neg, rfl⟩, hb⟩; have HB2 := Aside0.mk (below_then HB1.out HB1.out.size hb); have R2 := Aside0.mk ((hb.block _ (blk_lt R1.out)).trans R1.out); clear hb)
    | fail)
  obtain ⟨W3, hW3⟩ : ∃ W3, W3 = w2.alloc (.cells #[.int .i64 11, .int .i64 52, .bool neg, .int .u64 2047, .int .u64 xf] 61) := ⟨_, rfl⟩
  have H0 := Aside0.mk (show Below w.heap.size w W3 by rw [hW3]; exact HB2.out.alloc HB2.out.size _)
  have Q0 := heap_alloc_new w2 (.cells #[.int .i64 11, .int .i64 52, .bool neg, .int .u64 2047, .int .u64 xf] 61)
  have R0 := (heap_alloc_old (.cells #[.int .i64 11, .int .i64 52, .bool neg, .int .u64 2047, .int .u64 xf] 61) (blk_lt R2.out)).trans R2.out
  have r0 := R0
  rw [← hW3] at Q0 R0 r0
  have Q0 := Aside0.mk Q0
  have R0 := Aside0.mk R0
  rw [← hW3]
  have hne : w.heap.size < w2.heap.size := blk_lt R2.out
  have KQ := Aside0.mk (show ∀ W : World, W.heap[w2.heap.size]? = some (.cells #[.int .i64 11, .int .i64 52, .bool neg, .int .u64 2047, .int .u64 xf] 61 (0, 0)) → (fun W => W.cell? ⟨w2.heap.size, 0, none⟩ = some (.int .i64 11) ∧ W.cell? ⟨w2.heap.size, 1, none⟩ = some (.int .i64 52) ∧ W.cell? ⟨w2.heap.size, 2, none⟩ = some (.bool neg) ∧ W.cell? ⟨w2.heap.size, 3, none⟩ = some (.int .u64 2047) ∧ W.cell? ⟨w2.heap.size, 4, none⟩ = some (.int .u64 xf)) W from fun W q' =>
    ⟨(blk_cell q' 0).trans rfl, (blk_cell q' 1).trans rfl, (blk_cell q' 2).trans rfl, (blk_cell q' 3).trans rfl, (blk_cell q' 4).trans rfl⟩)
  clear hW3 r0
  go_wp2
  go_region_held (fun W => W.cell? ⟨w2.heap.size, 0, none⟩ = some (.int .i64 11) ∧ W.cell? ⟨w2.heap.size, 1, none⟩ = some (.int .i64 52) ∧ W.cell? ⟨w2.heap.size, 2, none⟩ = some (.bool neg) ∧ W.cell? ⟨w2.heap.size, 3, none⟩ = some (.int .u64 2047) ∧ W.cell? ⟨w2.heap.size, 4, none⟩ = some (.int .u64 xf)) ((first | exact KQ.out _ Qc.out | exact KQ.out _ Qb.out | exact KQ.out _ Qa.out | exact KQ.out _ Q0.out | exact KQ.out _ ((Below.heap_setCell _ _ _ _ (by simp; omega)).trans ((Below.heap_setCell _ _ _ _ (by simp; omega)).trans ((Below.heap_setCell _ _ _ _ (by simp; omega)).trans ((Below.heap_setCell _ _ _ _ (by simp; omega)).trans Qc.out)))))) ((first | (go_at_call 26; refine (ones64 _).mono ?_; rintro e wa ⟨rfl, hb⟩; have Ha := Aside0.mk (below_then (below_drew H0.out) (below_drew H0.out).size hb); have Qa := Aside0.mk ((hb.block _ (blk_lt Q0.out)).trans Q0.out); have Ra := Aside0.mk ((hb.block _ (blk_lt R0.out)).trans R0.out); clear hb)))
  have c0 := (blk_cell Ra.out 0).trans rfl
  have f0 := blk_frozen Ra.out 0
  have c1 := (blk_cell Ra.out 1).trans rfl
  have f1 := blk_frozen Ra.out 1
  have c2 := (blk_cell Ra.out 2).trans rfl
  have f2 := blk_frozen Ra.out 2
  have c3 := (blk_cell Ra.out 3).trans rfl
  have f3 := blk_frozen Ra.out 3
  go_wp2
  have P := blk_set (blk_set (blk_set (blk_set Ra.out 0 (.bool false)) 1 (.int .i64 3)) 2 (.int .i64 0)) 3 (.int .u64 0)
  have k0 := blk_cell P 0
  have k1 := blk_cell P 1
  have k2 := blk_cell P 2
  have k3 := blk_cell P 3
  simp at k0 k1 k2 k3
  refine bodyPost_ret (v := .agg #[.bool false, .int .i64 3, .int .i64 0, .int .u64 0]) (by simp [results, Tryz.results23, go_sem, k0, k1, k2, k3]) rfl ?_
  exact ⟨⟨false, rfl⟩, bset (bset (bset (bset Ha.out (Nat.le_refl _) _ _) (Nat.le_refl _) _ _) (Nat.le_refl _) _ _) (Nat.le_refl _) _ _⟩
set_option maxRecDepth 100000 in
set_option maxHeartbeats 4000000 in
theorem Open64inf (n : Int) (w : World) (h0 : 0 ≤ n) (h1 : n < 18446744073709551616) (he : n / 4503599627370496 % 2048 = 2047) (hf : n % 4503599627370496 = 0) :
    Calls Tryz.prog 23 #[.int .i64 64, .int .u64 n] w fun e w' => (∃ neg : Bool, e = .returned (.agg #[.bool neg, .int .i64 2, .int .i64 0, .int .u64 0])) ∧ Below w.heap.size w w' := by
  have wr0 : IntKind.u64.wrap 4503599627370496 = 4503599627370496 := by decide
  have R00 := heap_alloc_new w (.cells #[.bool false, .int .i64 0, .int .i64 0, .int .u64 0] 46)
  have SP := Aside0.mk (fun (W : World) => split64 n W h0 h1)
  rw [he, hf] at SP
  have B0 := Aside0.mk (below_alloc (Below.refl w.heap.size w) (.cells #[.bool false, .int .i64 0, .int .i64 0, .int .u64 0] 46))
  have RR := Aside0.mk R00
  clear he hf h0 h1 R00
  go_enter Tryz.func23, Tryz.ntmps23
  go_wp2_with (first
    | (go_at_call 24; refine (of64 _).mono ?_; rintro e w1 ⟨rfl, hb⟩; have HB1 := Aside0.mk ((below_then B0.out (by rw [World.size_alloc]; omega) hb).alloc (below_then B0.out (by rw [World.size_alloc]; omega) hb).size (.cells #[.int .i64 11, .int .i64 52] 49)); have r1 := (hb.block _ (blk_lt RR.out)).trans RR.out; have R1 := Aside0.mk ((heap_alloc_old (.cells #[.int .i64 11, .int .i64 52] 49) (blk_lt r1)).trans r1); clear hb r1)
    | (go_at_call 65; refine (SP.out _).mono ?_; rintro e w2 ⟨⟨neg, rfl⟩, hb⟩; have HB2 := Aside0.mk (below_then HB1.out HB1.out.size hb); have R2 := Aside0.mk ((hb.block _ (blk_lt R1.out)).trans R1.out); clear hb)
    | fail)
  obtain ⟨W3, hW3⟩ : ∃ W3, W3 = w2.alloc (.cells #[.int .i64 11, .int .i64 52, .bool neg, .int .u64 2047, .int .u64 0] 61) := ⟨_, rfl⟩
  have H0 := Aside0.mk (show Below w.heap.size w W3 by rw [hW3]; exact HB2.out.alloc HB2.out.size _)
  have Q0 := heap_alloc_new w2 (.cells #[.int .i64 11, .int .i64 52, .bool neg, .int .u64 2047, .int .u64 0] 61)
  have R0 := (heap_alloc_old (.cells #[.int .i64 11, .int .i64 52, .bool neg, .int .u64 2047, .int .u64 0] 61) (blk_lt R2.out)).trans R2.out
  have r0 := R0
  rw [← hW3] at Q0 R0 r0
  have Q0 := Aside0.mk Q0
  have R0 := Aside0.mk R0
  rw [← hW3]
  have hne : w.heap.size < w2.heap.size := blk_lt R2.out
  have KQ := Aside0.mk (show ∀ W : World, W.heap[w2.heap.size]? = some (.cells #[.int .i64 11, .int .i64 52, .bool neg, .int .u64 2047, .int .u64 0] 61 (0, 0)) → (fun W => W.cell? ⟨w2.heap.size, 0, none⟩ = some (.int .i64 11) ∧ W.cell? ⟨w2.heap.size, 1, none⟩ = some (.int .i64 52) ∧ W.cell? ⟨w2.heap.size, 2, none⟩ = some (.bool neg) ∧ W.cell? ⟨w2.heap.size, 3, none⟩ = some (.int .u64 2047) ∧ W.cell? ⟨w2.heap.size, 4, none⟩ = some (.int .u64 0)) W from fun W q' =>
    ⟨(blk_cell q' 0).trans rfl, (blk_cell q' 1).trans rfl, (blk_cell q' 2).trans rfl, (blk_cell q' 3).trans rfl, (blk_cell q' 4).trans rfl⟩)
  clear hW3 r0
  go_wp2
  go_region_held (fun W => W.cell? ⟨w2.heap.size, 0, none⟩ = some (.int .i64 11) ∧ W.cell? ⟨w2.heap.size, 1, none⟩ = some (.int .i64 52) ∧ W.cell? ⟨w2.heap.size, 2, none⟩ = some (.bool neg) ∧ W.cell? ⟨w2.heap.size, 3, none⟩ = some (.int .u64 2047) ∧ W.cell? ⟨w2.heap.size, 4, none⟩ = some (.int .u64 0)) ((first | exact KQ.out _ Qc.out | exact KQ.out _ Qb.out | exact KQ.out _ Qa.out | exact KQ.out _ Q0.out | exact KQ.out _ ((Below.heap_setCell _ _ _ _ (by simp; omega)).trans ((Below.heap_setCell _ _ _ _ (by simp; omega)).trans ((Below.heap_setCell _ _ _ _ (by simp; omega)).trans ((Below.heap_setCell _ _ _ _ (by simp; omega)).trans Qc.out)))))) ((first | (go_at_call 26; refine (ones64 _).mono ?_; rintro e wa ⟨rfl, hb⟩; have Ha := Aside0.mk (below_then (below_drew H0.out) (below_drew H0.out).size hb); have Qa := Aside0.mk ((hb.block _ (blk_lt Q0.out)).trans Q0.out); have Ra := Aside0.mk ((hb.block _ (blk_lt R0.out)).trans R0.out); clear hb)))
  go_wp2
  go_region_held (fun W => W.cell? ⟨w2.heap.size, 0, none⟩ = some (.int .i64 11) ∧ W.cell? ⟨w2.heap.size, 1, none⟩ = some (.int .i64 52) ∧ W.cell? ⟨w2.heap.size, 2, none⟩ = some (.bool neg) ∧ W.cell? ⟨w2.heap.size, 3, none⟩ = some (.int .u64 2047) ∧ W.cell? ⟨w2.heap.size, 4, none⟩ = some (.int .u64 0)) ((first | exact KQ.out _ Qc.out | exact KQ.out _ Qb.out | exact KQ.out _ Qa.out | exact KQ.out _ Q0.out | exact KQ.out _ ((Below.heap_setCell _ _ _ _ (by simp; omega)).trans ((Below.heap_setCell _ _ _ _ (by simp; omega)).trans ((Below.heap_setCell _ _ _ _ (by simp; omega)).trans ((Below.heap_setCell _ _ _ _ (by simp; omega)).trans Qc.out)))))) ((first | (go_at_call 26; refine (ones64 _).mono ?_; rintro e wb ⟨rfl, hb⟩; have Hb := Aside0.mk (below_then (below_drew Ha.out) (below_drew Ha.out).size hb); have Qb := Aside0.mk ((hb.block _ (blk_lt Qa.out)).trans Qa.out); have Rb := Aside0.mk ((hb.block _ (blk_lt Ra.out)).trans Ra.out); clear hb)))
  have c0 := (blk_cell Rb.out 0).trans rfl
  have f0 := blk_frozen Rb.out 0
  have c1 := (blk_cell Rb.out 1).trans rfl
  have f1 := blk_frozen Rb.out 1
  have c2 := (blk_cell Rb.out 2).trans rfl
  have f2 := blk_frozen Rb.out 2
  have c3 := (blk_cell Rb.out 3).trans rfl
  have f3 := blk_frozen Rb.out 3
  have y0 := (blk_cell Qb.out 0).trans rfl
  have y1 := (blk_cell Qb.out 1).trans rfl
  have y2 := (blk_cell Qb.out 2).trans rfl
  have y3 := (blk_cell Qb.out 3).trans rfl
  have y4 := (blk_cell Qb.out 4).trans rfl
  go_wp2
  have P := blk_set (blk_set (blk_set (blk_set Rb.out 0 (.bool neg)) 1 (.int .i64 2)) 2 (.int .i64 0)) 3 (.int .u64 0)
  have k0 := blk_cell P 0
  have k1 := blk_cell P 1
  have k2 := blk_cell P 2
  have k3 := blk_cell P 3
  simp at k0 k1 k2 k3
  refine bodyPost_ret (v := .agg #[.bool neg, .int .i64 2, .int .i64 0, .int .u64 0]) (by simp [results, Tryz.results23, go_sem, k0, k1, k2, k3]) rfl ?_
  exact ⟨⟨neg, rfl⟩, bset (bset (bset (bset Hb.out (Nat.le_refl _) _ _) (Nat.le_refl _) _ _) (Nat.le_refl _) _ _) (Nat.le_refl _) _ _⟩
set_option maxRecDepth 100000 in
set_option maxHeartbeats 4000000 in
theorem Open64zero (n : Int) (w : World) (h0 : 0 ≤ n) (h1 : n < 18446744073709551616) (he : n / 4503599627370496 % 2048 = 0) (hf : n % 4503599627370496 = 0) :
    Calls Tryz.prog 23 #[.int .i64 64, .int .u64 n] w fun e w' => (∃ neg : Bool, e = .returned (.agg #[.bool neg, .int .i64 0, .int .i64 0, .int .u64 0])) ∧ Below w.heap.size w w' := by
  have wr0 : IntKind.u64.wrap 4503599627370496 = 4503599627370496 := by decide
  have R00 := heap_alloc_new w (.cells #[.bool false, .int .i64 0, .int .i64 0, .int .u64 0] 46)
  have SP := Aside0.mk (fun (W : World) => split64 n W h0 h1)
  rw [he, hf] at SP
  have B0 := Aside0.mk (below_alloc (Below.refl w.heap.size w) (.cells #[.bool false, .int .i64 0, .int .i64 0, .int .u64 0] 46))
  have RR := Aside0.mk R00
  clear he hf h0 h1 R00
  go_enter Tryz.func23, Tryz.ntmps23
  go_wp2_with (first
    | (go_at_call 24; refine (of64 _).mono ?_; rintro e w1 ⟨rfl, hb⟩; have HB1 := Aside0.mk ((below_then B0.out (by rw [World.size_alloc]; omega) hb).alloc (below_then B0.out (by rw [World.size_alloc]; omega) hb).size (.cells #[.int .i64 11, .int .i64 52] 49)); have r1 := (hb.block _ (blk_lt RR.out)).trans RR.out; have R1 := Aside0.mk ((heap_alloc_old (.cells #[.int .i64 11, .int .i64 52] 49) (blk_lt r1)).trans r1); clear hb r1)
    | (go_at_call 65; refine (SP.out _).mono ?_; rintro e w2 ⟨⟨neg, rfl⟩, hb⟩; have HB2 := Aside0.mk (below_then HB1.out HB1.out.size hb); have R2 := Aside0.mk ((hb.block _ (blk_lt R1.out)).trans R1.out); clear hb)
    | fail)
  obtain ⟨W3, hW3⟩ : ∃ W3, W3 = w2.alloc (.cells #[.int .i64 11, .int .i64 52, .bool neg, .int .u64 0, .int .u64 0] 61) := ⟨_, rfl⟩
  have H0 := Aside0.mk (show Below w.heap.size w W3 by rw [hW3]; exact HB2.out.alloc HB2.out.size _)
  have Q0 := heap_alloc_new w2 (.cells #[.int .i64 11, .int .i64 52, .bool neg, .int .u64 0, .int .u64 0] 61)
  have R0 := (heap_alloc_old (.cells #[.int .i64 11, .int .i64 52, .bool neg, .int .u64 0, .int .u64 0] 61) (blk_lt R2.out)).trans R2.out
  have r0 := R0
  rw [← hW3] at Q0 R0 r0
  have Q0 := Aside0.mk Q0
  have R0 := Aside0.mk R0
  rw [← hW3]
  have hne : w.heap.size < w2.heap.size := blk_lt R2.out
  have KQ := Aside0.mk (show ∀ W : World, W.heap[w2.heap.size]? = some (.cells #[.int .i64 11, .int .i64 52, .bool neg, .int .u64 0, .int .u64 0] 61 (0, 0)) → (fun W => W.cell? ⟨w2.heap.size, 0, none⟩ = some (.int .i64 11) ∧ W.cell? ⟨w2.heap.size, 1, none⟩ = some (.int .i64 52) ∧ W.cell? ⟨w2.heap.size, 2, none⟩ = some (.bool neg) ∧ W.cell? ⟨w2.heap.size, 3, none⟩ = some (.int .u64 0) ∧ W.cell? ⟨w2.heap.size, 4, none⟩ = some (.int .u64 0)) W from fun W q' =>
    ⟨(blk_cell q' 0).trans rfl, (blk_cell q' 1).trans rfl, (blk_cell q' 2).trans rfl, (blk_cell q' 3).trans rfl, (blk_cell q' 4).trans rfl⟩)
  clear hW3 r0
  go_wp2
  refine wp_region_held_drew (S := fun W => W.cell? ⟨w2.heap.size, 0, none⟩ = some (.int .i64 11) ∧ W.cell? ⟨w2.heap.size, 1, none⟩ = some (.int .i64 52) ∧ W.cell? ⟨w2.heap.size, 2, none⟩ = some (.bool neg) ∧ W.cell? ⟨w2.heap.size, 3, none⟩ = some (.int .u64 0) ∧ W.cell? ⟨w2.heap.size, 4, none⟩ = some (.int .u64 0)) (by kernel_rfl) (KQ.out _ Q0.out) (fun hHeld => ?_)
  refine tk (i := 0) ?_
  (try simp only [Act.put, g4, g5, g6])
  refine tk (i := 1) ?_
  (try simp only [Act.put, g4, g5, g6])
  refine tk (i := 2) ?_
  (try simp only [Act.put, g4, g5, g6])
  refine tk (i := 3) ?_
  (try simp only [Act.put, g4, g5, g6])
  refine wpAnyH_ready (rs := [4]) (by kernel_rfl) (by simp) ?_
  refine AllReadyH.cons (o := ?o4) ?ho4 (fun K hK => ?_) AllReadyH.nil
  case ho4 => simp only [g1, g2, g3]; rfl
  go_simp
  refine (ones64 _).mono ?_
  rintro e wa ⟨rfl, hb⟩
  have Ha := Aside0.mk (below_then (below_drew H0.out) (below_drew H0.out).size hb)
  have Qa := Aside0.mk ((hb.block _ (blk_lt Q0.out)).trans Q0.out)
  have Ra := Aside0.mk ((hb.block _ (blk_lt R0.out)).trans R0.out)
  clear hb
  refine hK.out _ _ (KQ.out _ Qa.out) (fun hHeld2 => ?_)
  clear hK K hHeld
  have hHeld := hHeld2
  clear hHeld2
  (try simp only [Act.put, g4, g5, g6])
  refine tk (i := 5) ?_
  (try simp only [Act.put, g4, g5, g6])
  refine tk (i := 6) ?_
  (try simp only [Act.put, g4, g5, g6])
  refine sk (i := 7) ?_
  (try simp only [Act.put, g4, g5, g6])
  refine sk (i := 8) ?_
  (try simp only [Act.put, g4, g5, g6])
  refine sk (i := 9) ?_
  (try simp only [Act.put, g4, g5, g6])
  refine tk (i := 10) ?_
  (try simp only [Act.put, g4, g5, g6])
  refine tk (i := 11) ?_
  (try simp only [Act.put, g4, g5, g6])
  refine wpAnyH_done (by kernel_rfl) ?_ _
  go_wp2
  go_region_held (fun W => W.cell? ⟨w2.heap.size, 0, none⟩ = some (.int .i64 11) ∧ W.cell? ⟨w2.heap.size, 1, none⟩ = some (.int .i64 52) ∧ W.cell? ⟨w2.heap.size, 2, none⟩ = some (.bool neg) ∧ W.cell? ⟨w2.heap.size, 3, none⟩ = some (.int .u64 0) ∧ W.cell? ⟨w2.heap.size, 4, none⟩ = some (.int .u64 0)) ((first | exact KQ.out _ Qc.out | exact KQ.out _ Qb.out | exact KQ.out _ Qa.out | exact KQ.out _ Q0.out | exact KQ.out _ ((Below.heap_setCell _ _ _ _ (by simp; omega)).trans ((Below.heap_setCell _ _ _ _ (by simp; omega)).trans ((Below.heap_setCell _ _ _ _ (by simp; omega)).trans ((Below.heap_setCell _ _ _ _ (by simp; omega)).trans Qc.out)))))) ((first | (go_at_call 26; refine (ones64 _).mono ?_; rintro e wb ⟨rfl, hb⟩; have Hb := Aside0.mk (below_then (below_drew Ha.out) (below_drew Ha.out).size hb); have Qb := Aside0.mk ((hb.block _ (blk_lt Qa.out)).trans Qa.out); have Rb := Aside0.mk ((hb.block _ (blk_lt Ra.out)).trans Ra.out); clear hb)))
  have c0 := (blk_cell Rb.out 0).trans rfl
  have f0 := blk_frozen Rb.out 0
  have c1 := (blk_cell Rb.out 1).trans rfl
  have f1 := blk_frozen Rb.out 1
  have c2 := (blk_cell Rb.out 2).trans rfl
  have f2 := blk_frozen Rb.out 2
  have c3 := (blk_cell Rb.out 3).trans rfl
  have f3 := blk_frozen Rb.out 3
  have y0 := (blk_cell Qb.out 0).trans rfl
  have y1 := (blk_cell Qb.out 1).trans rfl
  have y2 := (blk_cell Qb.out 2).trans rfl
  have y3 := (blk_cell Qb.out 3).trans rfl
  have y4 := (blk_cell Qb.out 4).trans rfl
  go_wp2
  have P := blk_set (blk_set (blk_set (blk_set Rb.out 0 (.bool neg)) 1 (.int .i64 0)) 2 (.int .i64 0)) 3 (.int .u64 0)
  have k0 := blk_cell P 0
  have k1 := blk_cell P 1
  have k2 := blk_cell P 2
  have k3 := blk_cell P 3
  simp at k0 k1 k2 k3
  refine bodyPost_ret (v := .agg #[.bool neg, .int .i64 0, .int .i64 0, .int .u64 0]) (by simp [results, Tryz.results23, go_sem, k0, k1, k2, k3]) rfl ?_
  exact ⟨⟨neg, rfl⟩, bset (bset (bset (bset Hb.out (Nat.le_refl _) _ _) (Nat.le_refl _) _ _) (Nat.le_refl _) _ _) (Nat.le_refl _) _ _⟩
set_option maxRecDepth 100000 in
set_option maxHeartbeats 4000000 in
theorem Open64sub (n : Int) (w : World) (h0 : 0 ≤ n) (h1 : n < 18446744073709551616) (xf : Int) (he : n / 4503599627370496 % 2048 = 0) (hf : n % 4503599627370496 = xf) (hn : ¬ xf = 0) :
    Calls Tryz.prog 23 #[.int .i64 64, .int .u64 n] w fun e w' => (∃ neg : Bool, e = .returned (.agg #[.bool neg, .int .i64 1, .int .i64 (-1074), .int .u64 xf])) ∧ Below w.heap.size w w' := by
  have wr0 : IntKind.u64.wrap 4503599627370496 = 4503599627370496 := by decide
  have dx : ((xf : Int) == 0) = false := beq_eq_false_iff_ne.2 hn
  have R00 := heap_alloc_new w (.cells #[.bool false, .int .i64 0, .int .i64 0, .int .u64 0] 46)
  have SP := Aside0.mk (fun (W : World) => split64 n W h0 h1)
  rw [he, hf] at SP
  have B0 := Aside0.mk (below_alloc (Below.refl w.heap.size w) (.cells #[.bool false, .int .i64 0, .int .i64 0, .int .u64 0] 46))
  have RR := Aside0.mk R00
  clear he hf h0 h1 R00
  go_enter Tryz.func23, Tryz.ntmps23
  go_wp2_with (first
    | (go_at_call 24; refine (of64 _).mono ?_; rintro e w1 ⟨rfl, hb⟩; have HB1 := Aside0.mk ((below_then B0.out (by rw [World.size_alloc]; omega) hb).alloc (below_then B0.out (by rw [World.size_alloc]; omega) hb).size (.cells #[.int .i64 11, .int .i64 52] 49)); have r1 := (hb.block _ (blk_lt RR.out)).trans RR.out; have R1 := Aside0.mk ((heap_alloc_old (.cells #[.int .i64 11, .int .i64 52] 49) (blk_lt r1)).trans r1); clear hb r1)
    | (go_at_call 65; refine (SP.out _).mono ?_; rintro e w2 ⟨⟨neg, rfl⟩, hb⟩; have HB2 := Aside0.mk (below_then HB1.out HB1.out.size hb); have R2 := Aside0.mk ((hb.block _ (blk_lt R1.out)).trans R1.out); clear hb)
    | fail)
  obtain ⟨W3, hW3⟩ : ∃ W3, W3 = w2.alloc (.cells #[.int .i64 11, .int .i64 52, .bool neg, .int .u64 0, .int .u64 xf] 61) := ⟨_, rfl⟩
  have H0 := Aside0.mk (show Below w.heap.size w W3 by rw [hW3]; exact HB2.out.alloc HB2.out.size _)
  have Q0 := heap_alloc_new w2 (.cells #[.int .i64 11, .int .i64 52, .bool neg, .int .u64 0, .int .u64 xf] 61)
  have R0 := (heap_alloc_old (.cells #[.int .i64 11, .int .i64 52, .bool neg, .int .u64 0, .int .u64 xf] 61) (blk_lt R2.out)).trans R2.out
  have r0 := R0
  rw [← hW3] at Q0 R0 r0
  have Q0 := Aside0.mk Q0
  have R0 := Aside0.mk R0
  rw [← hW3]
  have hne : w.heap.size < w2.heap.size := blk_lt R2.out
  have KQ := Aside0.mk (show ∀ W : World, W.heap[w2.heap.size]? = some (.cells #[.int .i64 11, .int .i64 52, .bool neg, .int .u64 0, .int .u64 xf] 61 (0, 0)) → (fun W => W.cell? ⟨w2.heap.size, 0, none⟩ = some (.int .i64 11) ∧ W.cell? ⟨w2.heap.size, 1, none⟩ = some (.int .i64 52) ∧ W.cell? ⟨w2.heap.size, 2, none⟩ = some (.bool neg) ∧ W.cell? ⟨w2.heap.size, 3, none⟩ = some (.int .u64 0) ∧ W.cell? ⟨w2.heap.size, 4, none⟩ = some (.int .u64 xf)) W from fun W q' =>
    ⟨(blk_cell q' 0).trans rfl, (blk_cell q' 1).trans rfl, (blk_cell q' 2).trans rfl, (blk_cell q' 3).trans rfl, (blk_cell q' 4).trans rfl⟩)
  clear hW3 r0
  go_wp2
  refine wp_region_held_drew (S := fun W => W.cell? ⟨w2.heap.size, 0, none⟩ = some (.int .i64 11) ∧ W.cell? ⟨w2.heap.size, 1, none⟩ = some (.int .i64 52) ∧ W.cell? ⟨w2.heap.size, 2, none⟩ = some (.bool neg) ∧ W.cell? ⟨w2.heap.size, 3, none⟩ = some (.int .u64 0) ∧ W.cell? ⟨w2.heap.size, 4, none⟩ = some (.int .u64 xf)) (by kernel_rfl) (KQ.out _ Q0.out) (fun hHeld => ?_)
  refine tk (i := 0) ?_
  (try simp only [Act.put, g4, g5, g6])
  refine tk (i := 1) ?_
  (try simp only [Act.put, g4, g5, g6])
  refine tk (i := 2) ?_
  (try simp only [Act.put, g4, g5, g6])
  refine tk (i := 3) ?_
  (try simp only [Act.put, g4, g5, g6])
  refine wpAnyH_ready (rs := [4]) (by kernel_rfl) (by simp) ?_
  refine AllReadyH.cons (o := ?o4) ?ho4 (fun K hK => ?_) AllReadyH.nil
  case ho4 => simp only [g1, g2, g3]; rfl
  go_simp
  refine (ones64 _).mono ?_
  rintro e wa ⟨rfl, hb⟩
  have Ha := Aside0.mk (below_then (below_drew H0.out) (below_drew H0.out).size hb)
  have Qa := Aside0.mk ((hb.block _ (blk_lt Q0.out)).trans Q0.out)
  have Ra := Aside0.mk ((hb.block _ (blk_lt R0.out)).trans R0.out)
  clear hb
  refine hK.out _ _ (KQ.out _ Qa.out) (fun hHeld2 => ?_)
  clear hK K hHeld
  have hHeld := hHeld2
  clear hHeld2
  (try simp only [Act.put, g4, g5, g6])
  refine tk (i := 5) ?_
  (try simp only [Act.put, g4, g5, g6])
  refine tk (i := 6) ?_
  (try simp only [Act.put, g4, g5, g6])
  refine sk (i := 7) ?_
  (try simp only [Act.put, g4, g5, g6])
  refine sk (i := 8) ?_
  (try simp only [Act.put, g4, g5, g6])
  refine sk (i := 9) ?_
  (try simp only [Act.put, g4, g5, g6])
  refine tk (i := 10) ?_
  (try simp only [Act.put, g4, g5, g6])
  refine tk (i := 11) ?_
  (try simp only [Act.put, g4, g5, g6])
  refine wpAnyH_done (by kernel_rfl) ?_ _
  go_wp2
  go_region_held (fun W => W.cell? ⟨w2.heap.size, 0, none⟩ = some (.int .i64 11) ∧ W.cell? ⟨w2.heap.size, 1, none⟩ = some (.int .i64 52) ∧ W.cell? ⟨w2.heap.size, 2, none⟩ = some (.bool neg) ∧ W.cell? ⟨w2.heap.size, 3, none⟩ = some (.int .u64 0) ∧ W.cell? ⟨w2.heap.size, 4, none⟩ = some (.int .u64 xf)) ((first | exact KQ.out _ Qc.out | exact KQ.out _ Qb.out | exact KQ.out _ Qa.out | exact KQ.out _ Q0.out | exact KQ.out _ ((Below.heap_setCell _ _ _ _ (by simp; omega)).trans ((Below.heap_setCell _ _ _ _ (by simp; omega)).trans ((Below.heap_setCell _ _ _ _ (by simp; omega)).trans ((Below.heap_setCell _ _ _ _ (by simp; omega)).trans Qc.out)))))) ((first | (go_at_call 26; refine (ones64 _).mono ?_; rintro e wb ⟨rfl, hb⟩; have Hb := Aside0.mk (below_then (below_drew Ha.out) (below_drew Ha.out).size hb); have Qb := Aside0.mk ((hb.block _ (blk_lt Qa.out)).trans Qa.out); have Rb := Aside0.mk ((hb.block _ (blk_lt Ra.out)).trans Ra.out); clear hb)))
  have y0 := (blk_cell Qb.out 0).trans rfl
  have y1 := (blk_cell Qb.out 1).trans rfl
  have y2 := (blk_cell Qb.out 2).trans rfl
  have y3 := (blk_cell Qb.out 3).trans rfl
  have y4 := (blk_cell Qb.out 4).trans rfl
  go_wp2
  clear y0 y1 y2 y3 y4
  go_region_held (fun W => W.cell? ⟨w2.heap.size, 0, none⟩ = some (.int .i64 11) ∧ W.cell? ⟨w2.heap.size, 1, none⟩ = some (.int .i64 52) ∧ W.cell? ⟨w2.heap.size, 2, none⟩ = some (.bool neg) ∧ W.cell? ⟨w2.heap.size, 3, none⟩ = some (.int .u64 0) ∧ W.cell? ⟨w2.heap.size, 4, none⟩ = some (.int .u64 xf)) ((first | exact KQ.out _ Qc.out | exact KQ.out _ Qb.out | exact KQ.out _ Qa.out | exact KQ.out _ Q0.out | exact KQ.out _ ((Below.heap_setCell _ _ _ _ (by simp; omega)).trans ((Below.heap_setCell _ _ _ _ (by simp; omega)).trans ((Below.heap_setCell _ _ _ _ (by simp; omega)).trans ((Below.heap_setCell _ _ _ _ (by simp; omega)).trans Qc.out)))))) ((first | (go_at_call 66; refine (low64 _).mono ?_; rintro e wc ⟨rfl, hb⟩; have Hc := Aside0.mk (below_then (below_drew Hb.out) (below_drew Hb.out).size hb); have Qc := Aside0.mk ((hb.block _ (blk_lt Qb.out)).trans Qb.out); have rr := (hb.block _ (blk_lt Rb.out)).trans Rb.out; have Rc := Aside0.mk rr; have c0 := (blk_cell rr 0).trans rfl; have c1 := (blk_cell rr 1).trans rfl; have c2 := (blk_cell rr 2).trans rfl; have c3 := (blk_cell rr 3).trans rfl; have f0 := blk_frozen rr 0; have f1 := blk_frozen rr 1; have f2 := blk_frozen rr 2; have f3 := blk_frozen rr 3; clear hb rr)))
  go_wp2
  have P := blk_set (blk_set (blk_set (blk_set Rc.out 0 (.bool neg)) 1 (.int .i64 1)) 2 (.int .i64 (-1074))) 3 (.int .u64 xf)
  have k0 := blk_cell P 0
  have k1 := blk_cell P 1
  have k2 := blk_cell P 2
  have k3 := blk_cell P 3
  simp at k0 k1 k2 k3
  refine bodyPost_ret (v := .agg #[.bool neg, .int .i64 1, .int .i64 (-1074), .int .u64 xf]) (by simp [results, Tryz.results23, go_sem, k0, k1, k2, k3]) rfl ?_
  exact ⟨⟨neg, rfl⟩, bset (bset (bset (bset Hc.out (Nat.le_refl _) _ _) (Nat.le_refl _) _ _) (Nat.le_refl _) _ _) (Nat.le_refl _) _ _⟩
set_option maxRecDepth 100000 in
set_option maxHeartbeats 4000000 in
theorem Open64norm (n : Int) (w : World) (h0 : 0 ≤ n) (h1 : n < 18446744073709551616) (xe : Int) (xf : Int) (he : n / 4503599627370496 % 2048 = xe) (hf : n % 4503599627370496 = xf) (hx0 : 0 < xe) (hx1 : xe < 2047) (hf0 : 0 ≤ xf) (hf1 : xf < 4503599627370496) :
    Calls Tryz.prog 23 #[.int .i64 64, .int .u64 n] w fun e w' => (∃ neg : Bool, e = .returned (.agg #[.bool neg, .int .i64 1, .int .i64 (-1074 + xe - 1), .int .u64 (4503599627370496 + xf)])) ∧ Below w.heap.size w w' := by
  have wr0 : IntKind.u64.wrap 4503599627370496 = 4503599627370496 := by decide
  have dx : ((xe : Int) == 2047) = false := beq_eq_false_iff_ne.2 (by omega)
  have d0 : ((xe : Int) == 0) = false := beq_eq_false_iff_ne.2 (by omega)
  have cx : ∀ W, (convert 22 3 (.int .u64 xe)).run Tryz.prog W = .ok (.int .i64 xe) W := fun W => by
    go_simp
    simp only [IntKind.wrap_i64]
    omega
  have wa : IntKind.i64.wrap (-1074 + xe) = -1074 + xe := by simp only [IntKind.wrap_i64]; omega
  have ws : IntKind.i64.wrap (-1074 + xe - 1) = -1074 + xe - 1 := by simp only [IntKind.wrap_i64]; omega
  have bo : bits .or .u64 4503599627370496 xf = 4503599627370496 + xf := bits_join .u64 64 (by decide) (fun n h0 h1 => by simp only [IntKind.wrap_u64]; omega) 52 _ _ (by decide) (by decide) (by decide) hf0 (by omega) (by omega)
  have R00 := heap_alloc_new w (.cells #[.bool false, .int .i64 0, .int .i64 0, .int .u64 0] 46)
  have SP := Aside0.mk (fun (W : World) => split64 n W h0 h1)
  rw [he, hf] at SP
  have B0 := Aside0.mk (below_alloc (Below.refl w.heap.size w) (.cells #[.bool false, .int .i64 0, .int .i64 0, .int .u64 0] 46))
  have RR := Aside0.mk R00
  clear he hf h0 h1 R00
  go_enter Tryz.func23, Tryz.ntmps23
  go_wp2_with (first
    | (go_at_call 24; refine (of64 _).mono ?_; rintro e w1 ⟨rfl, hb⟩; have HB1 := Aside0.mk ((below_then B0.out (by rw [World.size_alloc]; omega) hb).alloc (below_then B0.out (by rw [World.size_alloc]; omega) hb).size (.cells #[.int .i64 11, .int .i64 52] 49)); have r1 := (hb.block _ (blk_lt RR.out)).trans RR.out; have R1 := Aside0.mk ((heap_alloc_old (.cells #[.int .i64 11, .int .i64 52] 49) (blk_lt r1)).trans r1); clear hb r1)
    | (go_at_call 65; refine (SP.out _).mono ?_; rintro e w2 ⟨⟨neg, rfl⟩, hb⟩; have HB2 := Aside0.mk (below_then HB1.out HB1.out.size hb); have R2 := Aside0.mk ((hb.block _ (blk_lt R1.out)).trans R1.out); clear hb)
    | fail)
  obtain ⟨W3, hW3⟩ : ∃ W3, W3 = w2.alloc (.cells #[.int .i64 11, .int .i64 52, .bool neg, .int .u64 xe, .int .u64 xf] 61) := ⟨_, rfl⟩
  have H0 := Aside0.mk (show Below w.heap.size w W3 by rw [hW3]; exact HB2.out.alloc HB2.out.size _)
  have Q0 := heap_alloc_new w2 (.cells #[.int .i64 11, .int .i64 52, .bool neg, .int .u64 xe, .int .u64 xf] 61)
  have R0 := (heap_alloc_old (.cells #[.int .i64 11, .int .i64 52, .bool neg, .int .u64 xe, .int .u64 xf] 61) (blk_lt R2.out)).trans R2.out
  have r0 := R0
  rw [← hW3] at Q0 R0 r0
  have Q0 := Aside0.mk Q0
  have R0 := Aside0.mk R0
  rw [← hW3]
  have hne : w.heap.size < w2.heap.size := blk_lt R2.out
  have KQ := Aside0.mk (show ∀ W : World, W.heap[w2.heap.size]? = some (.cells #[.int .i64 11, .int .i64 52, .bool neg, .int .u64 xe, .int .u64 xf] 61 (0, 0)) → (fun W => W.cell? ⟨w2.heap.size, 0, none⟩ = some (.int .i64 11) ∧ W.cell? ⟨w2.heap.size, 1, none⟩ = some (.int .i64 52) ∧ W.cell? ⟨w2.heap.size, 2, none⟩ = some (.bool neg) ∧ W.cell? ⟨w2.heap.size, 3, none⟩ = some (.int .u64 xe) ∧ W.cell? ⟨w2.heap.size, 4, none⟩ = some (.int .u64 xf)) W from fun W q' =>
    ⟨(blk_cell q' 0).trans rfl, (blk_cell q' 1).trans rfl, (blk_cell q' 2).trans rfl, (blk_cell q' 3).trans rfl, (blk_cell q' 4).trans rfl⟩)
  clear hW3 r0
  go_wp2
  refine wp_region_held_drew (S := fun W => W.cell? ⟨w2.heap.size, 0, none⟩ = some (.int .i64 11) ∧ W.cell? ⟨w2.heap.size, 1, none⟩ = some (.int .i64 52) ∧ W.cell? ⟨w2.heap.size, 2, none⟩ = some (.bool neg) ∧ W.cell? ⟨w2.heap.size, 3, none⟩ = some (.int .u64 xe) ∧ W.cell? ⟨w2.heap.size, 4, none⟩ = some (.int .u64 xf)) (by kernel_rfl) (KQ.out _ Q0.out) (fun hHeld => ?_)
  refine tk (i := 0) ?_
  (try simp only [Act.put, g4, g5, g6])
  refine tk (i := 1) ?_
  (try simp only [Act.put, g4, g5, g6])
  refine tk (i := 2) ?_
  (try simp only [Act.put, g4, g5, g6])
  refine tk (i := 3) ?_
  (try simp only [Act.put, g4, g5, g6])
  refine wpAnyH_ready (rs := [4]) (by kernel_rfl) (by simp) ?_
  refine AllReadyH.cons (o := ?o4) ?ho4 (fun K hK => ?_) AllReadyH.nil
  case ho4 => simp only [g1, g2, g3]; rfl
  go_simp
  refine (ones64 _).mono ?_
  rintro e wa ⟨rfl, hb⟩
  have Ha := Aside0.mk (below_then (below_drew H0.out) (below_drew H0.out).size hb)
  have Qa := Aside0.mk ((hb.block _ (blk_lt Q0.out)).trans Q0.out)
  have Ra := Aside0.mk ((hb.block _ (blk_lt R0.out)).trans R0.out)
  clear hb
  refine hK.out _ _ (KQ.out _ Qa.out) (fun hHeld2 => ?_)
  clear hK K hHeld
  have hHeld := hHeld2
  clear hHeld2
  (try simp only [Act.put, g4, g5, g6])
  refine tk (i := 5) ?_
  (try simp only [Act.put, g4, g5, g6])
  refine tk (i := 6) ?_
  (try simp only [Act.put, g4, g5, g6])
  refine sk (i := 7) ?_
  (try simp only [Act.put, g4, g5, g6])
  refine sk (i := 8) ?_
  (try simp only [Act.put, g4, g5, g6])
  refine sk (i := 9) ?_
  (try simp only [Act.put, g4, g5, g6])
  refine tk (i := 10) ?_
  (try simp only [Act.put, g4, g5, g6])
  refine tk (i := 11) ?_
  (try simp only [Act.put, g4, g5, g6])
  refine wpAnyH_done (by kernel_rfl) ?_ _
  go_wp2
  go_region_held (fun W => W.cell? ⟨w2.heap.size, 0, none⟩ = some (.int .i64 11) ∧ W.cell? ⟨w2.heap.size, 1, none⟩ = some (.int .i64 52) ∧ W.cell? ⟨w2.heap.size, 2, none⟩ = some (.bool neg) ∧ W.cell? ⟨w2.heap.size, 3, none⟩ = some (.int .u64 xe) ∧ W.cell? ⟨w2.heap.size, 4, none⟩ = some (.int .u64 xf)) ((first | exact KQ.out _ Qc.out | exact KQ.out _ Qb.out | exact KQ.out _ Qa.out | exact KQ.out _ Q0.out | exact KQ.out _ ((Below.heap_setCell _ _ _ _ (by simp; omega)).trans ((Below.heap_setCell _ _ _ _ (by simp; omega)).trans ((Below.heap_setCell _ _ _ _ (by simp; omega)).trans ((Below.heap_setCell _ _ _ _ (by simp; omega)).trans Qc.out)))))) ((first | (go_at_call 26; refine (ones64 _).mono ?_; rintro e wb ⟨rfl, hb⟩; have Hb := Aside0.mk (below_then (below_drew Ha.out) (below_drew Ha.out).size hb); have Qb := Aside0.mk ((hb.block _ (blk_lt Qa.out)).trans Qa.out); have Rb := Aside0.mk ((hb.block _ (blk_lt Ra.out)).trans Ra.out); clear hb)))
  have y0 := (blk_cell Qb.out 0).trans rfl
  have y1 := (blk_cell Qb.out 1).trans rfl
  have y2 := (blk_cell Qb.out 2).trans rfl
  have y3 := (blk_cell Qb.out 3).trans rfl
  have y4 := (blk_cell Qb.out 4).trans rfl
  go_wp2
  clear y0 y1 y2 y3 y4
  go_region_held (fun W => W.cell? ⟨w2.heap.size, 0, none⟩ = some (.int .i64 11) ∧ W.cell? ⟨w2.heap.size, 1, none⟩ = some (.int .i64 52) ∧ W.cell? ⟨w2.heap.size, 2, none⟩ = some (.bool neg) ∧ W.cell? ⟨w2.heap.size, 3, none⟩ = some (.int .u64 xe) ∧ W.cell? ⟨w2.heap.size, 4, none⟩ = some (.int .u64 xf)) ((first | exact KQ.out _ Qc.out | exact KQ.out _ Qb.out | exact KQ.out _ Qa.out | exact KQ.out _ Q0.out | exact KQ.out _ ((Below.heap_setCell _ _ _ _ (by simp; omega)).trans ((Below.heap_setCell _ _ _ _ (by simp; omega)).trans ((Below.heap_setCell _ _ _ _ (by simp; omega)).trans ((Below.heap_setCell _ _ _ _ (by simp; omega)).trans Qc.out)))))) ((first | (go_at_call 66; refine (low64 _).mono ?_; rintro e wc ⟨rfl, hb⟩; have Hc := Aside0.mk (below_then (below_drew Hb.out) (below_drew Hb.out).size hb); have Qc := Aside0.mk ((hb.block _ (blk_lt Qb.out)).trans Qb.out); have rr := (hb.block _ (blk_lt Rb.out)).trans Rb.out; have Rc := Aside0.mk rr; have c0 := (blk_cell rr 0).trans rfl; have c1 := (blk_cell rr 1).trans rfl; have c2 := (blk_cell rr 2).trans rfl; have c3 := (blk_cell rr 3).trans rfl; have f0 := blk_frozen rr 0; have f1 := blk_frozen rr 1; have f2 := blk_frozen rr 2; have f3 := blk_frozen rr 3; clear hb rr)))
  go_wp2
  have P := blk_set (blk_set (blk_set (blk_set Rc.out 0 (.bool neg)) 1 (.int .i64 1)) 2 (.int .i64 (-1074 + xe - 1))) 3 (.int .u64 (4503599627370496 + xf))
  have k0 := blk_cell P 0
  have k1 := blk_cell P 1
  have k2 := blk_cell P 2
  have k3 := blk_cell P 3
  simp at k0 k1 k2 k3
  refine bodyPost_ret (v := .agg #[.bool neg, .int .i64 1, .int .i64 (-1074 + xe - 1), .int .u64 (4503599627370496 + xf)]) (by simp [results, Tryz.results23, go_sem, k0, k1, k2, k3]) rfl ?_
  exact ⟨⟨neg, rfl⟩, bset (bset (bset (bset Hc.out (Nat.le_refl _) _ _) (Nat.le_refl _) _ _) (Nat.le_refl _) _ _) (Nat.le_refl _) _ _⟩
theorem Open64 (n : Int) (w : World) (h0 : 0 ≤ n) (h1 : n < 18446744073709551616) :
    Calls Tryz.prog 23 #[.int .i64 64, .int .u64 n] w fun e w' => ∃ neg k ex s, e = .returned (.agg #[.bool neg, .int .i64 k, .int .i64 ex, .int .u64 s]) ∧ Parts 64 n neg k ex s ∧ Below w.heap.size w w' := by
  have hN : isN 64 n ↔ (n / 4503599627370496 % 2048 = 2047 ∧ n % 4503599627370496 ≠ 0) := by unfold isN; simp
  obtain ⟨xe, he⟩ : ∃ xe, n / 4503599627370496 % 2048 = xe := ⟨_, rfl⟩
  obtain ⟨xf, hf⟩ : ∃ xf, n % 4503599627370496 = xf := ⟨_, rfl⟩
  rw [he, hf] at hN
  have e0 : 0 ≤ xe ∧ xe < 2048 := by omega
  have f0 : 0 ≤ xf ∧ xf < 4503599627370496 := by omega
  by_cases c1 : xe = 2047
  · subst c1
    by_cases c2 : xf = 0
    · subst c2
      refine (Open64inf n w h0 h1 he hf).mono ?_
      rintro e w' ⟨⟨neg, rfl⟩, hb⟩
      exact ⟨neg, 2, 0, 0, rfl, ⟨by decide, by rw [hN]; simp, fun h => by simp at h, fun _ => ⟨rfl, rfl⟩⟩, hb⟩
    · refine (Open64nan n w h0 h1 xf he hf c2).mono ?_
      rintro e w' ⟨⟨neg, rfl⟩, hb⟩
      exact ⟨false, 3, 0, 0, rfl, ⟨by decide, by rw [hN]; simp [c2], fun h => by simp at h, fun _ => ⟨rfl, rfl⟩⟩, hb⟩
  by_cases c3 : xe = 0
  · subst c3
    by_cases c2 : xf = 0
    · subst c2
      refine (Open64zero n w h0 h1 he hf).mono ?_
      rintro e w' ⟨⟨neg, rfl⟩, hb⟩
      exact ⟨neg, 0, 0, 0, rfl, ⟨by decide, by rw [hN]; simp, fun h => by simp at h, fun _ => ⟨rfl, rfl⟩⟩, hb⟩
    · refine (Open64sub n w h0 h1 xf he hf c2).mono ?_
      rintro e w' ⟨⟨neg, rfl⟩, hb⟩
      exact ⟨neg, 1, -1074, xf, rfl, ⟨by decide, by rw [hN]; simp, fun _ => by omega, fun h => absurd rfl h⟩, hb⟩
  · refine (Open64norm n w h0 h1 xe xf he hf (by omega) (by omega) f0.1 f0.2).mono ?_
    rintro e w' ⟨⟨neg, rfl⟩, hb⟩
    exact ⟨neg, 1, -1074 + xe - 1, 4503599627370496 + xf, rfl, ⟨by decide, by rw [hN]; simp [c1], fun _ => by omega, fun h => absurd rfl h⟩, hb⟩
end Go.Proofs.YticonaahlplbjaaGreatDoor.Tn
