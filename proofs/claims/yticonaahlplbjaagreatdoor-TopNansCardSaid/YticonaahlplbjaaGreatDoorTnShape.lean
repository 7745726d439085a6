/- The walks of shape: Open and what is made of no parts. -/
import Derived.Test.YticonaahlplbjaaGreatDoorTnBase
import Derived.Laws.BitsAllLaws
namespace Go.Proofs.YticonaahlplbjaaGreatDoor.Tn
open Go.RowKit Go.Proofs.YticonaahlplbjaaGreatDoorW.PrintWords Go.Proofs.YticonaahlplbjaaGreatDoorW.PrintLast Go.Proofs.YticonaahlplbjaaGreatDoorW.PrintMore
set_option linter.unusedVariables false
set_option linter.unusedSimpArgs false
theorem heap_alloc_old {W : World} {k : Nat} (o : Obj) (h : k < W.heap.size) : (W.alloc o).heap[k]? = W.heap[k]? := Below.heap_alloc W o k h
set_option maxRecDepth 100000 in
set_option maxHeartbeats 4000000 in
theorem of32 (w : World) : Calls Tryz.prog 24 #[.int .i64 32] w fun e w' => e = .returned (.tuple #[.agg #[.int .i64 8, .int .i64 23], .bool true]) ∧ Below w.heap.size w w' := by
  go_enter Tryz.func24, Tryz.ntmps24
  go_wp2
  refine bodyPost_ret (v := .tuple #[.agg #[.int .i64 8, .int .i64 23], .bool true]) (by simp [results, Tryz.results24, go_sem]) rfl ?_
  exact ⟨rfl, below_alloc (Below.refl _ _) _⟩
set_option maxRecDepth 100000 in
set_option maxHeartbeats 4000000 in
theorem ones32 (w : World) : Calls Tryz.prog 26 #[.agg #[.int .i64 8, .int .i64 23]] w fun e w' => e = .returned (.int .u64 255) ∧ Below w.heap.size w w' := by
  go_enter Tryz.func26, Tryz.ntmps26
  go_wp2
  go_ret
  exact ⟨rfl, below_alloc (Below.refl _ _) _⟩
set_option maxRecDepth 100000 in
set_option maxHeartbeats 4000000 in
theorem low32 (w : World) : Calls Tryz.prog 66 #[.agg #[.int .i64 8, .int .i64 23]] w fun e w' => e = .returned (.int .i64 (-149)) ∧ Below w.heap.size w w' := by
  go_enter Tryz.func66, Tryz.ntmps66
  go_wp2
  go_region
  all_goals
    go_wp2
    go_ret
    exact ⟨rfl, below_drew (below_alloc (Below.refl _ _) _)⟩
set_option maxRecDepth 100000 in
set_option maxHeartbeats 4000000 in
theorem split32 (n : Int) (w : World) (h0 : 0 ≤ n) (h1 : n < 18446744073709551616) : Calls Tryz.prog 65 #[.agg #[.int .i64 8, .int .i64 23], .int .u64 n] w fun e w' => (∃ neg, e = .returned (.agg #[.int .i64 8, .int .i64 23, .bool neg, .int .u64 (n / 8388608 % 256), .int .u64 (n % 8388608)])) ∧ Below w.heap.size w w' := by
  have b1 : bits .and .u64 (n / 8388608) 255 = n / 8388608 % 256 := bits_mask .u64 64 (by decide) (fun n h0 h1 => by simp only [IntKind.wrap_u64]; omega) 8 (by decide) _ (by omega) (by omega)
  have b2 : bits .and .u64 n 8388607 = n % 8388608 := bits_mask .u64 64 (by decide) (fun n h0 h1 => by simp only [IntKind.wrap_u64]; omega) 23 (by decide) n h0 (by omega)
  have wr1 : IntKind.i64.wrap 31 = 31 := by decide
  have wr2 : IntKind.u64.wrap 8388608 = 8388608 := by decide
  have wr3 : IntKind.u64.wrap (8388608 - 1) = 8388607 := by decide
  have wr4 : IntKind.u64.wrap 8388607 = 8388607 := by decide
  have q := (heap_alloc_old (.cells #[.int .i64 0, .int .i64 0, .bool false, .int .u64 0, .int .u64 0] 61) (blk_lt (heap_alloc_new w (.cells #[.int .i64 8, .int .i64 23] 49)))).trans (heap_alloc_new w (.cells #[.int .i64 8, .int .i64 23] 49))
  have z := heap_alloc_new (w.alloc (.cells #[.int .i64 8, .int .i64 23] 49)) (.cells #[.int .i64 0, .int .i64 0, .bool false, .int .u64 0, .int .u64 0] 61)
  obtain ⟨W0, hW0⟩ : ∃ W0, W0 = (w.alloc (.cells #[.int .i64 8, .int .i64 23] 49)).alloc (.cells #[.int .i64 0, .int .i64 0, .bool false, .int .u64 0, .int .u64 0] 61) := ⟨_, rfl⟩
  have s0 : W0.heap.size = w.heap.size + 2 := by rw [hW0, World.size_alloc, World.size_alloc]
  have hw0 : Below w.heap.size w W0 := by rw [hW0]; exact ((below_alloc (Below.refl _ _) _).alloc (by rw [World.size_alloc]; omega) _)
  rw [← hW0] at q z
  rw [World.size_alloc] at z
  have HW0 := Aside0.mk hw0
  have ON := Aside0.mk (show Calls Tryz.prog 26 #[.agg #[.int .i64 8, .int .i64 23]] W0.drew fun e w' => e = .returned (.int .u64 255) ∧ Below W0.heap.size W0 w' ∧ (fun W => W.cell? ⟨w.heap.size, 0, none⟩ = some (.int .i64 8) ∧ W.cell? ⟨w.heap.size, 1, none⟩ = some (.int .i64 23)) w' ∧ (w'.frozen? ⟨w.heap.size + 1, 0, none⟩ = false ∧ w'.frozen? ⟨w.heap.size + 1, 1, none⟩ = false ∧ w'.frozen? ⟨w.heap.size + 1, 2, none⟩ = false ∧ w'.frozen? ⟨w.heap.size + 1, 3, none⟩ = false ∧ w'.frozen? ⟨w.heap.size + 1, 4, none⟩ = false) ∧ w'.heap[w.heap.size + 1]? = some (.cells #[.int .i64 0, .int .i64 0, .bool false, .int .u64 0, .int .u64 0] 61 (0, 0)) ∧ w'.heap[w.heap.size]? = some (.cells #[.int .i64 8, .int .i64 23] 49 (0, 0)) from (ones32 W0.drew).mono (by
    rintro e w' ⟨rfl, hb⟩
    have hb' : Below W0.heap.size W0.drew w' := hb
    have h2 := (below_drew (Below.refl W0.heap.size W0)).trans hb'
    have q' := (h2.block w.heap.size (by omega)).trans q
    have z' := (h2.block (w.heap.size + 1) (by omega)).trans z
    exact ⟨rfl, h2, ⟨(blk_cell q' 0).trans rfl, (blk_cell q' 1).trans rfl⟩, ⟨blk_frozen z' 0, blk_frozen z' 1, blk_frozen z' 2, blk_frozen z' 3, blk_frozen z' 4⟩, z', q'⟩))
  have K0 := Aside0.mk (show (fun W => W.cell? ⟨w.heap.size, 0, none⟩ = some (.int .i64 8) ∧ W.cell? ⟨w.heap.size, 1, none⟩ = some (.int .i64 23)) W0 from ⟨(blk_cell q 0).trans rfl, (blk_cell q 1).trans rfl⟩)
  have KQ := Aside0.mk (show ∀ W : World, W.heap[w.heap.size]? = some (.cells #[.int .i64 8, .int .i64 23] 49 (0, 0)) → (fun W => W.cell? ⟨w.heap.size, 0, none⟩ = some (.int .i64 8) ∧ W.cell? ⟨w.heap.size, 1, none⟩ = some (.int .i64 23)) W from fun W hW => ⟨(blk_cell hW 0).trans rfl, (blk_cell hW 1).trans rfl⟩)
  clear q z
  go_enter Tryz.func65, Tryz.ntmps65
  go_wp2
  rw [← hW0]
  clear hW0 hw0
  refine wp_region_held_drew (S := fun W => W.cell? ⟨w.heap.size, 0, none⟩ = some (.int .i64 8) ∧ W.cell? ⟨w.heap.size, 1, none⟩ = some (.int .i64 23)) (by kernel_rfl) (K0.out) (fun hHeld => ?_)
  refine tk (i := 0) ?_
  (try simp only [Act.put, g4, g5, g6])
  refine tk (i := 1) ?_
  (try simp only [Act.put, g4, g5, g6])
  refine tk (i := 2) ?_
  (try simp only [Act.put, g4, g5, g6])
  refine tk (i := 3) ?_
  (try simp only [Act.put, g4, g5, g6])
  refine tk (i := 4) ?_
  (try simp only [Act.put, g4, g5, g6])
  refine tk (i := 5) ?_
  (try simp only [Act.put, g4, g5, g6])
  refine tk (i := 6) ?_
  (try simp only [Act.put, g4, g5, g6])
  refine tk (i := 7) ?_
  (try simp only [Act.put, g4, g5, g6])
  refine tk (i := 8) ?_
  (try simp only [Act.put, g4, g5, g6])
  refine tk (i := 9) ?_
  (try simp only [Act.put, g4, g5, g6])
  refine tk (i := 10) ?_
  (try simp only [Act.put, g4, g5, g6])
  refine tk (i := 11) ?_
  (try simp only [Act.put, g4, g5, g6])
  refine tk (i := 12) ?_
  (try simp only [Act.put, g4, g5, g6])
  refine tk (i := 13) ?_
  (try simp only [Act.put, g4, g5, g6])
  refine tk (i := 14) ?_
  (try simp only [Act.put, g4, g5, g6])
  refine tk (i := 17) ?_
  (try simp only [Act.put, g4, g5, g6])
  refine tk (i := 18) ?_
  (try simp only [Act.put, g4, g5, g6])
  refine tk (i := 19) ?_
  (try simp only [Act.put, g4, g5, g6])
  refine tk (i := 20) ?_
  (try simp only [Act.put, g4, g5, g6])
  refine tk (i := 21) ?_
  (try simp only [Act.put, g4, g5, g6])
  refine tk (i := 22) ?_
  (try simp only [Act.put, g4, g5, g6])
  refine wpAnyH_ready (rs := [15]) (by kernel_rfl) (by simp) ?_
  refine AllReadyH.cons (o := ?o15) ?ho15 (fun K hK => ?_) AllReadyH.nil
  case ho15 => simp only [g1, g2, g3]; rfl
  go_simp
  refine ON.out.mono ?_
  rintro e w1 ⟨rfl, hb, hk, ⟨f0, f1, f2, f3, f4⟩, hz, hq⟩
  have c0 := (blk_cell hz 0).trans rfl
  have c1 := (blk_cell hz 1).trans rfl
  have c2 := (blk_cell hz 2).trans rfl
  have c3 := (blk_cell hz 3).trans rfl
  have c4 := (blk_cell hz 4).trans rfl
  have HQ := Aside0.mk hq
  have HB1 := Aside0.mk hb
  have KK := Aside0.mk hk
  have HZ := Aside0.mk hz
  clear hb hk hz hq
  refine hK.out _ _ (KK.out) (fun hHeld2 => ?_)
  clear hK K hHeld
  have hHeld := hHeld2
  clear hHeld2
  (try simp only [Act.put, g4, g5, g6])
  refine tk (i := 16) ?_
  (try simp only [Act.put, g4, g5, g6])
  refine tk (i := 23) ?_
  (try simp only [Act.put, g4, g5, g6])
  refine wpAnyH_ready (rs := [24]) (by kernel_rfl) (by simp) ?_
  refine AllReadyH.cons (o := ?o24) ?ho24 (fun K hK => ?_) AllReadyH.nil
  case ho24 => simp only [g1, g2, g3]; rfl
  go_simp
  refine hK.out _ _ (KQ.out _ ((Below.heap_setCell _ _ _ _ (by simp)).trans ((Below.heap_setCell _ _ _ _ (by simp)).trans ((Below.heap_setCell _ _ _ _ (by simp)).trans ((Below.heap_setCell _ _ _ _ (by simp)).trans ((Below.heap_setCell _ _ _ _ (by simp)).trans HQ.out)))))) (fun hHeld2 => ?_)
  clear hK K hHeld
  have hHeld := hHeld2
  clear hHeld2
  (try simp only [Act.put, g4, g5, g6])
  refine wpAnyH_done (by kernel_rfl) ?_ _
  go_wp2
  have P := blk_set (blk_set (blk_set (blk_set (blk_set HZ.out 0 (.int .i64 8)) 1 (.int .i64 23)) 2 (.bool (bits .and .u64 (n / 2147483648) 1 == 1))) 3 (.int .u64 (n / 8388608 % 256))) 4 (.int .u64 (n % 8388608))
  have k0 := blk_cell P 0
  have k1 := blk_cell P 1
  have k2 := blk_cell P 2
  have k3 := blk_cell P 3
  have k4 := blk_cell P 4
  simp at k0 k1 k2 k3 k4
  refine bodyPost_ret (v := .agg #[.int .i64 8, .int .i64 23, .bool (bits .and .u64 (n / 2147483648) 1 == 1), .int .u64 (n / 8388608 % 256), .int .u64 (n % 8388608)]) (by simp [results, Tryz.results65, go_sem, k0, k1, k2, k3, k4]) rfl ?_
  exact ⟨⟨_, rfl⟩, bset (bset (bset (bset (bset (below_then HW0.out HW0.out.size HB1.out) (by omega) _ _) (by omega) _ _) (by omega) _ _) (by omega) _ _) (by omega) _ _⟩
set_option maxRecDepth 100000 in
set_option maxHeartbeats 4000000 in
theorem of64 (w : World) : Calls Tryz.prog 24 #[.int .i64 64] w fun e w' => e = .returned (.tuple #[.agg #[.int .i64 11, .int .i64 52], .bool true]) ∧ Below w.heap.size w w' := by
  go_enter Tryz.func24, Tryz.ntmps24
  go_wp2
  refine bodyPost_ret (v := .tuple #[.agg #[.int .i64 11, .int .i64 52], .bool true]) (by simp [results, Tryz.results24, go_sem]) rfl ?_
  exact ⟨rfl, below_alloc (Below.refl _ _) _⟩
set_option maxRecDepth 100000 in
set_option maxHeartbeats 4000000 in
theorem ones64 (w : World) : Calls Tryz.prog 26 #[.agg #[.int .i64 11, .int .i64 52]] w fun e w' => e = .returned (.int .u64 2047) ∧ Below w.heap.size w w' := by
  go_enter Tryz.func26, Tryz.ntmps26
  go_wp2
  go_ret
  exact ⟨rfl, below_alloc (Below.refl _ _) _⟩
set_option maxRecDepth 100000 in
set_option maxHeartbeats 4000000 in
theorem low64 (w : World) : Calls Tryz.prog 66 #[.agg #[.int .i64 11, .int .i64 52]] w fun e w' => e = .returned (.int .i64 (-1074)) ∧ Below w.heap.size w w' := by
  go_enter Tryz.func66, Tryz.ntmps66
  go_wp2
  go_region
  all_goals
    go_wp2
    go_ret
    exact ⟨rfl, below_drew (below_alloc (Below.refl _ _) _)⟩
set_option maxRecDepth 100000 in
set_option maxHeartbeats 4000000 in
theorem split64 (n : Int) (w : World) (h0 : 0 ≤ n) (h1 : n < 18446744073709551616) : Calls Tryz.prog 65 #[.agg #[.int .i64 11, .int .i64 52], .int .u64 n] w fun e w' => (∃ neg, e = .returned (.agg #[.int .i64 11, .int .i64 52, .bool neg, .int .u64 (n / 4503599627370496 % 2048), .int .u64 (n % 4503599627370496)])) ∧ Below w.heap.size w w' := by
  have b1 : bits .and .u64 (n / 4503599627370496) 2047 = n / 4503599627370496 % 2048 := bits_mask .u64 64 (by decide) (fun n h0 h1 => by simp only [IntKind.wrap_u64]; omega) 11 (by decide) _ (by omega) (by omega)
  have b2 : bits .and .u64 n 4503599627370495 = n % 4503599627370496 := bits_mask .u64 64 (by decide) (fun n h0 h1 => by simp only [IntKind.wrap_u64]; omega) 52 (by decide) n h0 (by omega)
  have wr1 : IntKind.i64.wrap 63 = 63 := by decide
  have wr2 : IntKind.u64.wrap 4503599627370496 = 4503599627370496 := by decide
  have wr3 : IntKind.u64.wrap (4503599627370496 - 1) = 4503599627370495 := by decide
  have wr4 : IntKind.u64.wrap 4503599627370495 = 4503599627370495 := by decide
  have q := (heap_alloc_old (.cells #[.int .i64 0, .int .i64 0, .bool false, .int .u64 0, .int .u64 0] 61) (blk_lt (heap_alloc_new w (.cells #[.int .i64 11, .int .i64 52] 49)))).trans (heap_alloc_new w (.cells #[.int .i64 11, .int .i64 52] 49))
  have z := heap_alloc_new (w.alloc (.cells #[.int .i64 11, .int .i64 52] 49)) (.cells #[.int .i64 0, .int .i64 0, .bool false, .int .u64 0, .int .u64 0] 61)
  obtain ⟨W0, hW0⟩ : ∃ W0, W0 = (w.alloc (.cells #[.int .i64 11, .int .i64 52] 49)).alloc (.cells #[.int .i64 0, .int .i64 0, .bool false, .int .u64 0, .int .u64 0] 61) := ⟨_, rfl⟩
  have s0 : W0.heap.size = w.heap.size + 2 := by rw [hW0, World.size_alloc, World.size_alloc]
  have hw0 : Below w.heap.size w W0 := by rw [hW0]; exact ((below_alloc (Below.refl _ _) _).alloc (by rw [World.size_alloc]; omega) _)
  rw [← hW0] at q z
  rw [World.size_alloc] at z
  have HW0 := Aside0.mk hw0
  have ON := Aside0.mk (show Calls Tryz.prog 26 #[.agg #[.int .i64 11, .int .i64 52]] W0.drew fun e w' => e = .returned (.int .u64 2047) ∧ Below W0.heap.size W0 w' ∧ (fun W => W.cell? ⟨w.heap.size, 0, none⟩ = some (.int .i64 11) ∧ W.cell? ⟨w.heap.size, 1, none⟩ = some (.int .i64 52)) w' ∧ (w'.frozen? ⟨w.heap.size + 1, 0, none⟩ = false ∧ w'.frozen? ⟨w.heap.size + 1, 1, none⟩ = false ∧ w'.frozen? ⟨w.heap.size + 1, 2, none⟩ = false ∧ w'.frozen? ⟨w.heap.size + 1, 3, none⟩ = false ∧ w'.frozen? ⟨w.heap.size + 1, 4, none⟩ = false) ∧ w'.heap[w.heap.size + 1]? = some (.cells #[.int .i64 0, .int .i64 0, .bool false, .int .u64 0, .int .u64 0] 61 (0, 0)) ∧ w'.heap[w.heap.size]? = some (.cells #[.int .i64 11, .int .i64 52] 49 (0, 0)) from (ones64 W0.drew).mono (by
    rintro e w' ⟨rfl, hb⟩
    have hb' : Below W0.heap.size W0.drew w' := hb
    have h2 := (below_drew (Below.refl W0.heap.size W0)).trans hb'
    have q' := (h2.block w.heap.size (by omega)).trans q
    have z' := (h2.block (w.heap.size + 1) (by omega)).trans z
    exact ⟨rfl, h2, ⟨(blk_cell q' 0).trans rfl, (blk_cell q' 1).trans rfl⟩, ⟨blk_frozen z' 0, blk_frozen z' 1, blk_frozen z' 2, blk_frozen z' 3, blk_frozen z' 4⟩, z', q'⟩))
  have K0 := Aside0.mk (show (fun W => W.cell? ⟨w.heap.size, 0, none⟩ = some (.int .i64 11) ∧ W.cell? ⟨w.heap.size, 1, none⟩ = some (.int .i64 52)) W0 from ⟨(blk_cell q 0).trans rfl, (blk_cell q 1).trans rfl⟩)
  have KQ := Aside0.mk (show ∀ W : World, W.heap[w.heap.size]? = some (.cells #[.int .i64 11, .int .i64 52] 49 (0, 0)) → (fun W => W.cell? ⟨w.heap.size, 0, none⟩ = some (.int .i64 11) ∧ W.cell? ⟨w.heap.size, 1, none⟩ = some (.int .i64 52)) W from fun W hW => ⟨(blk_cell hW 0).trans rfl, (blk_cell hW 1).trans rfl⟩)
  clear q z
  go_enter Tryz.func65, Tryz.ntmps65
  go_wp2
  rw [← hW0]
  clear hW0 hw0
  refine wp_region_held_drew (S := fun W => W.cell? ⟨w.heap.size, 0, none⟩ = some (.int .i64 11) ∧ W.cell? ⟨w.heap.size, 1, none⟩ = some (.int .i64 52)) (by kernel_rfl) (K0.out) (fun hHeld => ?_)
  refine tk (i := 0) ?_
  (try simp only [Act.put, g4, g5, g6])
  refine tk (i := 1) ?_
  (try simp only [Act.put, g4, g5, g6])
  refine tk (i := 2) ?_
  (try simp only [Act.put, g4, g5, g6])
  refine tk (i := 3) ?_
  (try simp only [Act.put, g4, g5, g6])
  refine tk (i := 4) ?_
  (try simp only [Act.put, g4, g5, g6])
  refine tk (i := 5) ?_
  (try simp only [Act.put, g4, g5, g6])
  refine tk (i := 6) ?_
  (try simp only [Act.put, g4, g5, g6])
  refine tk (i := 7) ?_
  (try simp only [Act.put, g4, g5, g6])
  refine tk (i := 8) ?_
  (try simp only [Act.put, g4, g5, g6])
  refine tk (i := 9) ?_
  (try simp only [Act.put, g4, g5, g6])
  refine tk (i := 10) ?_
  (try simp only [Act.put, g4, g5, g6])
  refine tk (i := 11) ?_
  (try simp only [Act.put, g4, g5, g6])
  refine tk (i := 12) ?_
  (try simp only [Act.put, g4, g5, g6])
  refine tk (i := 13) ?_
  (try simp only [Act.put, g4, g5, g6])
  refine tk (i := 14) ?_
  (try simp only [Act.put, g4, g5, g6])
  refine tk (i := 17) ?_
  (try simp only [Act.put, g4, g5, g6])
  refine tk (i := 18) ?_
  (try simp only [Act.put, g4, g5, g6])
  refine tk (i := 19) ?_
  (try simp only [Act.put, g4, g5, g6])
  refine tk (i := 20) ?_
  (try simp only [Act.put, g4, g5, g6])
  refine tk (i := 21) ?_
  (try simp only [Act.put, g4, g5, g6])
  refine tk (i := 22) ?_
  (try simp only [Act.put, g4, g5, g6])
  refine wpAnyH_ready (rs := [15]) (by kernel_rfl) (by simp) ?_
  refine AllReadyH.cons (o := ?o15) ?ho15 (fun K hK => ?_) AllReadyH.nil
  case ho15 => simp only [g1, g2, g3]; rfl
  go_simp
  refine ON.out.mono ?_
  rintro e w1 ⟨rfl, hb, hk, ⟨f0, f1, f2, f3, f4⟩, hz, hq⟩
  have c0 := (blk_cell hz 0).trans rfl
  have c1 := (blk_cell hz 1).trans rfl
  have c2 := (blk_cell hz 2).trans rfl
  have c3 := (blk_cell hz 3).trans rfl
  have c4 := (blk_cell hz 4).trans rfl
  have HQ := Aside0.mk hq
  have HB1 := Aside0.mk hb
  have KK := Aside0.mk hk
  have HZ := Aside0.mk hz
  clear hb hk hz hq
  refine hK.out _ _ (KK.out) (fun hHeld2 => ?_)
  clear hK K hHeld
  have hHeld := hHeld2
  clear hHeld2
  (try simp only [Act.put, g4, g5, g6])
  refine tk (i := 16) ?_
  (try simp only [Act.put, g4, g5, g6])
  refine tk (i := 23) ?_
  (try simp only [Act.put, g4, g5, g6])
  refine wpAnyH_ready (rs := [24]) (by kernel_rfl) (by simp) ?_
  refine AllReadyH.cons (o := ?o24) ?ho24 (fun K hK => ?_) AllReadyH.nil
  case ho24 => simp only [g1, g2, g3]; rfl
  go_simp
  refine hK.out _ _ (KQ.out _ ((Below.heap_setCell _ _ _ _ (by simp)).trans ((Below.heap_setCell _ _ _ _ (by simp)).trans ((Below.heap_setCell _ _ _ _ (by simp)).trans ((Below.heap_setCell _ _ _ _ (by simp)).trans ((Below.heap_setCell _ _ _ _ (by simp)).trans HQ.out)))))) (fun hHeld2 => ?_)
  clear hK K hHeld
  have hHeld := hHeld2
  clear hHeld2
  (try simp only [Act.put, g4, g5, g6])
  refine wpAnyH_done (by kernel_rfl) ?_ _
  go_wp2
  have P := blk_set (blk_set (blk_set (blk_set (blk_set HZ.out 0 (.int .i64 11)) 1 (.int .i64 52)) 2 (.bool (bits .and .u64 (n / 9223372036854775808) 1 == 1))) 3 (.int .u64 (n / 4503599627370496 % 2048))) 4 (.int .u64 (n % 4503599627370496))
  have k0 := blk_cell P 0
  have k1 := blk_cell P 1
  have k2 := blk_cell P 2
  have k3 := blk_cell P 3
  have k4 := blk_cell P 4
  simp at k0 k1 k2 k3 k4
  refine bodyPost_ret (v := .agg #[.int .i64 11, .int .i64 52, .bool (bits .and .u64 (n / 9223372036854775808) 1 == 1), .int .u64 (n / 4503599627370496 % 2048), .int .u64 (n % 4503599627370496)]) (by simp [results, Tryz.results65, go_sem, k0, k1, k2, k3, k4]) rfl ?_
  exact ⟨⟨_, rfl⟩, bset (bset (bset (bset (bset (below_then HW0.out HW0.out.size HB1.out) (by omega) _ _) (by omega) _ _) (by omega) _ _) (by omega) _ _) (by omega) _ _⟩
end Go.Proofs.YticonaahlplbjaaGreatDoor.Tn
