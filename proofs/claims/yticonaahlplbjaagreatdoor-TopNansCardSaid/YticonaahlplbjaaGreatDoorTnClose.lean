/- The walks of shape: Zero, Inf, Nan, Cut, IsNan, and a finite float of its parts. -/
import Derived.Test.YticonaahlplbjaaGreatDoorTnOpen32
import Derived.Test.YticonaahlplbjaaGreatDoorTnOpen64
import Derived.Test.YticonaahlplbjaaGreatDoorTnWide
namespace Go.Proofs.YticonaahlplbjaaGreatDoor.Tn
open Go.RowKit Go.Proofs.YticonaahlplbjaaGreatDoor.PTopNans Go.Proofs.YticonaahlplbjaaGreatDoorW.PrintWords Go.Proofs.YticonaahlplbjaaGreatDoorW.PrintLast Go.Proofs.YticonaahlplbjaaGreatDoorW.PrintMore
set_option linter.unusedVariables false
set_option linter.unusedSimpArgs false
/-- A good float comes back. -/
def GoodP (w : World) (v : Int) (e : Ending) (w' : World) : Prop := ∃ n, e = .returned (.int .u64 n) ∧ Good v n ∧ Below w.heap.size w w'
theorem Zero32 (neg : Bool) (w : World) : Calls Tryz.prog 92 #[.int .i64 32, .bool neg] w fun e w' => e = .returned (.int .u64 (if neg then 2147483648 else 0)) ∧ Below w.heap.size w w' := by
  cases neg
  · exact shape_Zero.calls 32 false 0 w (by decide +kernel)
  · exact shape_Zero.calls 32 true 2147483648 w (by decide +kernel)
theorem Zero32_good (neg : Bool) (w : World) : Calls Tryz.prog 92 #[.int .i64 32, .bool neg] w (GoodP w 32) := by
  refine (Zero32 neg w).mono ?_
  rintro e w' ⟨rfl, hb⟩
  refine ⟨_, rfl, ?_, hb⟩
  cases neg
  · exact ⟨by unfold u64; decide, .inl (by unfold isN; decide)⟩
  · exact ⟨by unfold u64; decide, .inl (by unfold isN; decide)⟩
theorem Inf32_good (neg : Bool) (w : World) : Calls Tryz.prog 93 #[.int .i64 32, .bool neg] w (GoodP w 32) := by
  cases neg
  · refine (shape_Inf.calls 32 false 2139095040 w (by decide +kernel)).mono ?_
    rintro e w' ⟨rfl, hb⟩
    exact ⟨_, rfl, ⟨by unfold u64; decide, .inl (by unfold isN; decide)⟩, hb⟩
  · refine (shape_Inf.calls 32 true 4286578688 w (by decide +kernel)).mono ?_
    rintro e w' ⟨rfl, hb⟩
    exact ⟨_, rfl, ⟨by unfold u64; decide, .inl (by unfold isN; decide)⟩, hb⟩
theorem Nan32 (w : World) : Calls Tryz.prog 7 #[.int .i64 32] w fun e w' => e = .returned (.int .u64 (cN 32)) ∧ Below w.heap.size w w' :=
  shape_Nan.calls 32 (cN 32) w (by decide +kernel)
theorem cN32_good : Good 32 (cN 32) := ⟨by unfold u64 cN; decide, .inr rfl⟩
theorem join32 (neg : Bool) (E fr : Int) (w : World) (e0 : 0 ≤ E) (e1 : E < 255) (f0 : 0 ≤ fr) (f1 : fr < 8388608) : Calls Tryz.prog 25 #[.agg #[.int .i64 8, .int .i64 23], .bool neg, .int .u64 E, .int .u64 fr] w (GoodP w 32) := by
  have hw : ∀ n : Int, 0 ≤ n → n < 2 ^ 64 → IntKind.u64.wrap n = n := fun n h0 h1 => by simp only [IntKind.wrap_u64]; omega
  have hs : shl .u64 E 23 = E * 8388608 := by
    show IntKind.u64.wrap (E * 2 ^ 23) = _
    rw [show (2 : Int) ^ 23 = 8388608 by decide, IntKind.wrap_u64]
    omega
  have hg : ∀ s : Int, (s = 0 ∨ s = 2147483648) → bits .or .u64 (bits .or .u64 s (E * 8388608)) fr = s + E * 8388608 + fr := fun s h => by
    rw [bits_join .u64 64 (by decide) hw 31 s (E * 8388608) (by omega) (by rcases h with rfl | rfl <;> decide) (by omega) (by omega) (by omega) (by omega)]
    exact bits_join .u64 64 (by decide) hw 23 _ fr (by omega) (by omega) (by omega) f0 (by omega) (by omega)
  have hn : ∀ s : Int, (s = 0 ∨ s = 2147483648) → Good 32 (s + E * 8388608 + fr) := fun s h => ⟨by unfold u64; omega, .inl (by unfold isN; simp; omega)⟩
  cases neg
  · refine (shape_format_join.calls 8 23 false E fr _ w (show shape_format_join.f 8 23 false E fr = some (0 + E * 8388608 + fr) from ?_)).mono ?_
    · unfold shape_format_join.f
      rw [show shape_format_sign.f 8 23 false = some 0 by decide +kernel]
      simp only [Option.bind_some]
      rw [if_pos (by decide), hs, hg 0 (.inl rfl)]
    · rintro e w' ⟨rfl, hb⟩
      exact ⟨_, rfl, hn 0 (.inl rfl), hb⟩
  · refine (shape_format_join.calls 8 23 true E fr _ w (show shape_format_join.f 8 23 true E fr = some (2147483648 + E * 8388608 + fr) from ?_)).mono ?_
    · unfold shape_format_join.f
      rw [show shape_format_sign.f 8 23 true = some 2147483648 by decide +kernel]
      simp only [Option.bind_some]
      rw [if_pos (by decide), hs, hg 2147483648 (.inr rfl)]
    · rintro e w' ⟨rfl, hb⟩
      exact ⟨_, rfl, hn 2147483648 (.inr rfl), hb⟩
set_option maxRecDepth 100000 in
set_option maxHeartbeats 4000000 in
theorem finite32_zero (neg : Bool) (k ex s : Int) (w : World) (hx : ex ≤ 104) (hx0 : -9223372036854775808 ≤ ex) (hs : u64 s) (h : s = 0) : Calls Tryz.prog 163 #[.agg #[.int .i64 8, .int .i64 23], .agg #[.bool neg, .int .i64 k, .int .i64 ex, .int .u64 s]] w fun e w' => ∃ n ok, e = .returned (.tuple #[.int .u64 n, .bool ok]) ∧ Good 32 n ∧ Below w.heap.size w w' := by
  have hs0 := hs.1
  have hs1 := hs.2
  have d0 : ((s : Int) == 0) = true := beq_iff_eq.2 h
  clear h
  have q0 := heap_alloc_new w (.cells #[.int .i64 8, .int .i64 23] 49)
  have qA := (heap_alloc_old (.cells #[.bool neg, .int .i64 k, .int .i64 ex, .int .u64 s] 46) (blk_lt q0)).trans q0
  have qB := heap_alloc_new (w.alloc (.cells #[.int .i64 8, .int .i64 23] 49)) (.cells #[.bool neg, .int .i64 k, .int .i64 ex, .int .u64 s] 46)
  obtain ⟨W0, hW0⟩ : ∃ W0, W0 = (w.alloc (.cells #[.int .i64 8, .int .i64 23] 49)).alloc (.cells #[.bool neg, .int .i64 k, .int .i64 ex, .int .u64 s] 46) := ⟨_, rfl⟩
  have H0 := Aside0.mk (show Below w.heap.size w W0 by rw [hW0]; exact (below_alloc (Below.refl _ _) _).alloc (by rw [World.size_alloc]; omega) _)
  rw [World.size_alloc] at qB
  rw [← hW0] at qA qB
  have kk0 := (blk_cell qA 0).trans rfl
  have kk1 := (blk_cell qA 1).trans rfl
  have QA := Aside0.mk qA
  have QB := Aside0.mk qB
  have KQ := Aside0.mk (show ∀ W : World, W.heap[w.heap.size]? = some (.cells #[.int .i64 8, .int .i64 23] 49 (0, 0)) → W.heap[w.heap.size + 1]? = some (.cells #[.bool neg, .int .i64 k, .int .i64 ex, .int .u64 s] 46 (0, 0)) → (fun W => W.cell? ⟨w.heap.size, 0, none⟩ = some (.int .i64 8) ∧ W.cell? ⟨w.heap.size, 1, none⟩ = some (.int .i64 23) ∧ W.cell? ⟨w.heap.size + 1, 0, none⟩ = some (.bool neg) ∧ W.cell? ⟨w.heap.size + 1, 1, none⟩ = some (.int .i64 k) ∧ W.cell? ⟨w.heap.size + 1, 2, none⟩ = some (.int .i64 ex) ∧ W.cell? ⟨w.heap.size + 1, 3, none⟩ = some (.int .u64 s)) W from fun W h1 h2 =>
    ⟨(blk_cell h1 0).trans rfl, (blk_cell h1 1).trans rfl, (blk_cell h2 0).trans rfl, (blk_cell h2 1).trans rfl, (blk_cell h2 2).trans rfl, (blk_cell h2 3).trans rfl⟩)
  have LO := Aside0.mk (low32 W0)
  rw [hW0] at LO kk0 kk1
  clear q0 qA qB
  go_enter Tryz.func163, Tryz.ntmps163
  go_wp2_with (first
    | (go_at_call 66; refine LO.out.mono ?_; rintro e w1 ⟨rfl, hb⟩
       rw [← hW0] at hb
       have H1 := Aside0.mk (below_then H0.out H0.out.size hb); have A1 := Aside0.mk ((hb.block _ (blk_lt QA.out)).trans QA.out); have B1 := Aside0.mk ((hb.block _ (blk_lt QB.out)).trans QB.out)
       clear hb)
    | fail)
  refine wp_region_held_drew (S := fun W => W.cell? ⟨w.heap.size, 0, none⟩ = some (.int .i64 8) ∧ W.cell? ⟨w.heap.size, 1, none⟩ = some (.int .i64 23) ∧ W.cell? ⟨w.heap.size + 1, 0, none⟩ = some (.bool neg) ∧ W.cell? ⟨w.heap.size + 1, 1, none⟩ = some (.int .i64 k) ∧ W.cell? ⟨w.heap.size + 1, 2, none⟩ = some (.int .i64 ex) ∧ W.cell? ⟨w.heap.size + 1, 3, none⟩ = some (.int .u64 s)) (by kernel_rfl) (KQ.out _ A1.out B1.out) (fun hHeld => ?_)
  refine tk (i := 0) ?_
  (try simp only [Act.put, g4, g5, g6])
  refine tk (i := 1) ?_
  (try simp only [Act.put, g4, g5, g6])
  refine tk (i := 2) ?_
  (try simp only [Act.put, g4, g5, g6])
  refine tk (i := 3) ?_
  (try simp only [Act.put, g4, g5, g6])
  refine sk (i := 4) ?_
  (try simp only [Act.put, g4, g5, g6])
  refine sk (i := 5) ?_
  (try simp only [Act.put, g4, g5, g6])
  refine sk (i := 6) ?_
  (try simp only [Act.put, g4, g5, g6])
  refine sk (i := 7) ?_
  (try simp only [Act.put, g4, g5, g6])
  refine sk (i := 8) ?_
  (try simp only [Act.put, g4, g5, g6])
  refine sk (i := 9) ?_
  (try simp only [Act.put, g4, g5, g6])
  refine tk (i := 10) ?_
  (try simp only [Act.put, g4, g5, g6])
  refine tk (i := 11) ?_
  (try simp only [Act.put, g4, g5, g6])
  refine sk (i := 12) ?_
  (try simp only [Act.put, g4, g5, g6])
  refine sk (i := 13) ?_
  (try simp only [Act.put, g4, g5, g6])
  refine sk (i := 14) ?_
  (try simp only [Act.put, g4, g5, g6])
  refine sk (i := 15) ?_
  (try simp only [Act.put, g4, g5, g6])
  refine tk (i := 16) ?_
  (try simp only [Act.put, g4, g5, g6])
  refine tk (i := 17) ?_
  (try simp only [Act.put, g4, g5, g6])
  refine wpAnyH_done (by kernel_rfl) ?_ _
  go_wp2
  refine bodyPost_ret (v := .tuple #[.int .u64 0, .bool false]) (by simp [results, Tryz.results163, go_sem]) rfl ?_
  exact ⟨0, false, rfl, ⟨by unfold u64; decide, .inl (by unfold isN; decide)⟩, below_drew H1.out⟩
set_option maxRecDepth 100000 in
set_option maxHeartbeats 4000000 in
theorem finite32_big (neg : Bool) (k ex s : Int) (w : World) (hx : ex ≤ 104) (hx0 : -9223372036854775808 ≤ ex) (hs : u64 s) (h : 16777216 ≤ s) : Calls Tryz.prog 163 #[.agg #[.int .i64 8, .int .i64 23], .agg #[.bool neg, .int .i64 k, .int .i64 ex, .int .u64 s]] w fun e w' => ∃ n ok, e = .returned (.tuple #[.int .u64 n, .bool ok]) ∧ Good 32 n ∧ Below w.heap.size w w' := by
  have hs0 := hs.1
  have hs1 := hs.2
  have d0 : ((s : Int) == 0) = false := beq_eq_false_iff_ne.2 (by omega)
  have d1 : decide (s ≥ 16777216) = true := decide_eq_true h
  have w1_ : IntKind.u64.wrap 16777216 = 16777216 := by decide
  have q0 := heap_alloc_new w (.cells #[.int .i64 8, .int .i64 23] 49)
  have qA := (heap_alloc_old (.cells #[.bool neg, .int .i64 k, .int .i64 ex, .int .u64 s] 46) (blk_lt q0)).trans q0
  have qB := heap_alloc_new (w.alloc (.cells #[.int .i64 8, .int .i64 23] 49)) (.cells #[.bool neg, .int .i64 k, .int .i64 ex, .int .u64 s] 46)
  obtain ⟨W0, hW0⟩ : ∃ W0, W0 = (w.alloc (.cells #[.int .i64 8, .int .i64 23] 49)).alloc (.cells #[.bool neg, .int .i64 k, .int .i64 ex, .int .u64 s] 46) := ⟨_, rfl⟩
  have H0 := Aside0.mk (show Below w.heap.size w W0 by rw [hW0]; exact (below_alloc (Below.refl _ _) _).alloc (by rw [World.size_alloc]; omega) _)
  rw [World.size_alloc] at qB
  rw [← hW0] at qA qB
  have kk0 := (blk_cell qA 0).trans rfl
  have kk1 := (blk_cell qA 1).trans rfl
  have QA := Aside0.mk qA
  have QB := Aside0.mk qB
  have KQ := Aside0.mk (show ∀ W : World, W.heap[w.heap.size]? = some (.cells #[.int .i64 8, .int .i64 23] 49 (0, 0)) → W.heap[w.heap.size + 1]? = some (.cells #[.bool neg, .int .i64 k, .int .i64 ex, .int .u64 s] 46 (0, 0)) → (fun W => W.cell? ⟨w.heap.size, 0, none⟩ = some (.int .i64 8) ∧ W.cell? ⟨w.heap.size, 1, none⟩ = some (.int .i64 23) ∧ W.cell? ⟨w.heap.size + 1, 0, none⟩ = some (.bool neg) ∧ W.cell? ⟨w.heap.size + 1, 1, none⟩ = some (.int .i64 k) ∧ W.cell? ⟨w.heap.size + 1, 2, none⟩ = some (.int .i64 ex) ∧ W.cell? ⟨w.heap.size + 1, 3, none⟩ = some (.int .u64 s)) W from fun W h1 h2 =>
    ⟨(blk_cell h1 0).trans rfl, (blk_cell h1 1).trans rfl, (blk_cell h2 0).trans rfl, (blk_cell h2 1).trans rfl, (blk_cell h2 2).trans rfl, (blk_cell h2 3).trans rfl⟩)
  have LO := Aside0.mk (low32 W0)
  rw [hW0] at LO kk0 kk1
  clear q0 qA qB
  go_enter Tryz.func163, Tryz.ntmps163
  go_wp2_with (first
    | (go_at_call 66; refine LO.out.mono ?_; rintro e w1 ⟨rfl, hb⟩
       rw [← hW0] at hb
       have H1 := Aside0.mk (below_then H0.out H0.out.size hb); have A1 := Aside0.mk ((hb.block _ (blk_lt QA.out)).trans QA.out); have B1 := Aside0.mk ((hb.block _ (blk_lt QB.out)).trans QB.out)
       clear hb)
    | fail)
  refine wp_region_held_drew (S := fun W => W.cell? ⟨w.heap.size, 0, none⟩ = some (.int .i64 8) ∧ W.cell? ⟨w.heap.size, 1, none⟩ = some (.int .i64 23) ∧ W.cell? ⟨w.heap.size + 1, 0, none⟩ = some (.bool neg) ∧ W.cell? ⟨w.heap.size + 1, 1, none⟩ = some (.int .i64 k) ∧ W.cell? ⟨w.heap.size + 1, 2, none⟩ = some (.int .i64 ex) ∧ W.cell? ⟨w.heap.size + 1, 3, none⟩ = some (.int .u64 s)) (by kernel_rfl) (KQ.out _ A1.out B1.out) (fun hHeld => ?_)
  refine tk (i := 0) ?_
  (try simp only [Act.put, g4, g5, g6])
  refine tk (i := 1) ?_
  (try simp only [Act.put, g4, g5, g6])
  refine tk (i := 2) ?_
  (try simp only [Act.put, g4, g5, g6])
  refine tk (i := 3) ?_
  (try simp only [Act.put, g4, g5, g6])
  refine tk (i := 4) ?_
  (try simp only [Act.put, g4, g5, g6])
  refine tk (i := 5) ?_
  (try simp only [Act.put, g4, g5, g6])
  refine tk (i := 6) ?_
  (try simp only [Act.put, g4, g5, g6])
  refine tk (i := 7) ?_
  (try simp only [Act.put, g4, g5, g6])
  refine tk (i := 8) ?_
  (try simp only [Act.put, g4, g5, g6])
  refine tk (i := 9) ?_
  (try simp only [Act.put, g4, g5, g6])
  refine tk (i := 10) ?_
  (try simp only [Act.put, g4, g5, g6])
  refine tk (i := 11) ?_
  (try simp only [Act.put, g4, g5, g6])
  refine sk (i := 12) ?_
  (try simp only [Act.put, g4, g5, g6])
  refine sk (i := 13) ?_
  (try simp only [Act.put, g4, g5, g6])
  refine sk (i := 14) ?_
  (try simp only [Act.put, g4, g5, g6])
  refine sk (i := 15) ?_
  (try simp only [Act.put, g4, g5, g6])
  refine tk (i := 16) ?_
  (try simp only [Act.put, g4, g5, g6])
  refine tk (i := 17) ?_
  (try simp only [Act.put, g4, g5, g6])
  refine wpAnyH_done (by kernel_rfl) ?_ _
  go_wp2
  refine bodyPost_ret (v := .tuple #[.int .u64 0, .bool false]) (by simp [results, Tryz.results163, go_sem]) rfl ?_
  exact ⟨0, false, rfl, ⟨by unfold u64; decide, .inl (by unfold isN; decide)⟩, below_drew H1.out⟩
set_option maxRecDepth 100000 in
set_option maxHeartbeats 4000000 in
theorem finite32_low (neg : Bool) (k ex s : Int) (w : World) (hx : ex ≤ 104) (hx0 : -9223372036854775808 ≤ ex) (hs : u64 s) (h0 : 0 < s) (h : s < 16777216) (hl : ex < -149) : Calls Tryz.prog 163 #[.agg #[.int .i64 8, .int .i64 23], .agg #[.bool neg, .int .i64 k, .int .i64 ex, .int .u64 s]] w fun e w' => ∃ n ok, e = .returned (.tuple #[.int .u64 n, .bool ok]) ∧ Good 32 n ∧ Below w.heap.size w w' := by
  have hs0 := hs.1
  have hs1 := hs.2
  have d0 : ((s : Int) == 0) = false := beq_eq_false_iff_ne.2 (by omega)
  have d1 : decide (s ≥ 16777216) = false := decide_eq_false (by omega)
  have d2 : decide (ex < -149) = true := decide_eq_true hl
  have w1_ : IntKind.u64.wrap 16777216 = 16777216 := by decide
  have q0 := heap_alloc_new w (.cells #[.int .i64 8, .int .i64 23] 49)
  have qA := (heap_alloc_old (.cells #[.bool neg, .int .i64 k, .int .i64 ex, .int .u64 s] 46) (blk_lt q0)).trans q0
  have qB := heap_alloc_new (w.alloc (.cells #[.int .i64 8, .int .i64 23] 49)) (.cells #[.bool neg, .int .i64 k, .int .i64 ex, .int .u64 s] 46)
  obtain ⟨W0, hW0⟩ : ∃ W0, W0 = (w.alloc (.cells #[.int .i64 8, .int .i64 23] 49)).alloc (.cells #[.bool neg, .int .i64 k, .int .i64 ex, .int .u64 s] 46) := ⟨_, rfl⟩
  have H0 := Aside0.mk (show Below w.heap.size w W0 by rw [hW0]; exact (below_alloc (Below.refl _ _) _).alloc (by rw [World.size_alloc]; omega) _)
  rw [World.size_alloc] at qB
  rw [← hW0] at qA qB
  have kk0 := (blk_cell qA 0).trans rfl
  have kk1 := (blk_cell qA 1).trans rfl
  have QA := Aside0.mk qA
  have QB := Aside0.mk qB
  have KQ := Aside0.mk (show ∀ W : World, W.heap[w.heap.size]? = some (.cells #[.int .i64 8, .int .i64 23] 49 (0, 0)) → W.heap[w.heap.size + 1]? = some (.cells #[.bool neg, .int .i64 k, .int .i64 ex, .int .u64 s] 46 (0, 0)) → (fun W => W.cell? ⟨w.heap.size, 0, none⟩ = some (.int .i64 8) ∧ W.cell? ⟨w.heap.size, 1, none⟩ = some (.int .i64 23) ∧ W.cell? ⟨w.heap.size + 1, 0, none⟩ = some (.bool neg) ∧ W.cell? ⟨w.heap.size + 1, 1, none⟩ = some (.int .i64 k) ∧ W.cell? ⟨w.heap.size + 1, 2, none⟩ = some (.int .i64 ex) ∧ W.cell? ⟨w.heap.size + 1, 3, none⟩ = some (.int .u64 s)) W from fun W h1 h2 =>
    ⟨(blk_cell h1 0).trans rfl, (blk_cell h1 1).trans rfl, (blk_cell h2 0).trans rfl, (blk_cell h2 1).trans rfl, (blk_cell h2 2).trans rfl, (blk_cell h2 3).trans rfl⟩)
  have LO := Aside0.mk (low32 W0)
  rw [hW0] at LO kk0 kk1
  clear q0 qA qB
  go_enter Tryz.func163, Tryz.ntmps163
  go_wp2_with (first
    | (go_at_call 66; refine LO.out.mono ?_; rintro e w1 ⟨rfl, hb⟩
       rw [← hW0] at hb
       have H1 := Aside0.mk (below_then H0.out H0.out.size hb); have A1 := Aside0.mk ((hb.block _ (blk_lt QA.out)).trans QA.out); have B1 := Aside0.mk ((hb.block _ (blk_lt QB.out)).trans QB.out)
       clear hb)
    | fail)
  refine wp_region_held_drew (S := fun W => W.cell? ⟨w.heap.size, 0, none⟩ = some (.int .i64 8) ∧ W.cell? ⟨w.heap.size, 1, none⟩ = some (.int .i64 23) ∧ W.cell? ⟨w.heap.size + 1, 0, none⟩ = some (.bool neg) ∧ W.cell? ⟨w.heap.size + 1, 1, none⟩ = some (.int .i64 k) ∧ W.cell? ⟨w.heap.size + 1, 2, none⟩ = some (.int .i64 ex) ∧ W.cell? ⟨w.heap.size + 1, 3, none⟩ = some (.int .u64 s)) (by kernel_rfl) (KQ.out _ A1.out B1.out) (fun hHeld => ?_)
  refine tk (i := 0) ?_
  (try simp only [Act.put, g4, g5, g6])
  refine tk (i := 1) ?_
  (try simp only [Act.put, g4, g5, g6])
  refine tk (i := 2) ?_
  (try simp only [Act.put, g4, g5, g6])
  refine tk (i := 3) ?_
  (try simp only [Act.put, g4, g5, g6])
  refine tk (i := 4) ?_
  (try simp only [Act.put, g4, g5, g6])
  refine tk (i := 5) ?_
  (try simp only [Act.put, g4, g5, g6])
  refine tk (i := 6) ?_
  (try simp only [Act.put, g4, g5, g6])
  refine tk (i := 7) ?_
  (try simp only [Act.put, g4, g5, g6])
  refine tk (i := 8) ?_
  (try simp only [Act.put, g4, g5, g6])
  refine tk (i := 9) ?_
  (try simp only [Act.put, g4, g5, g6])
  refine tk (i := 10) ?_
  (try simp only [Act.put, g4, g5, g6])
  refine tk (i := 11) ?_
  (try simp only [Act.put, g4, g5, g6])
  refine tk (i := 12) ?_
  (try simp only [Act.put, g4, g5, g6])
  refine tk (i := 13) ?_
  (try simp only [Act.put, g4, g5, g6])
  refine tk (i := 14) ?_
  (try simp only [Act.put, g4, g5, g6])
  refine tk (i := 15) ?_
  (try simp only [Act.put, g4, g5, g6])
  refine tk (i := 16) ?_
  (try simp only [Act.put, g4, g5, g6])
  refine tk (i := 17) ?_
  (try simp only [Act.put, g4, g5, g6])
  refine wpAnyH_done (by kernel_rfl) ?_ _
  go_wp2
  refine bodyPost_ret (v := .tuple #[.int .u64 0, .bool false]) (by simp [results, Tryz.results163, go_sem]) rfl ?_
  exact ⟨0, false, rfl, ⟨by unfold u64; decide, .inl (by unfold isN; decide)⟩, below_drew H1.out⟩
set_option maxRecDepth 100000 in
set_option maxHeartbeats 4000000 in
theorem finite32_sub (neg : Bool) (k ex s : Int) (w : World) (hx : ex ≤ 104) (hx0 : -9223372036854775808 ≤ ex) (hs : u64 s) (h0 : 0 < s) (h : s < 8388608) (hl : -149 ≤ ex) : Calls Tryz.prog 163 #[.agg #[.int .i64 8, .int .i64 23], .agg #[.bool neg, .int .i64 k, .int .i64 ex, .int .u64 s]] w fun e w' => ∃ n ok, e = .returned (.tuple #[.int .u64 n, .bool ok]) ∧ Good 32 n ∧ Below w.heap.size w w' := by
  have hs0 := hs.1
  have hs1 := hs.2
  have d0 : ((s : Int) == 0) = false := beq_eq_false_iff_ne.2 (by omega)
  have d1 : decide (s ≥ 16777216) = false := decide_eq_false (by omega)
  have d2 : decide (ex < -149) = false := decide_eq_false (by omega)
  have w1_ : IntKind.u64.wrap 16777216 = 16777216 := by decide
  have w2_ : IntKind.u64.wrap 8388608 = 8388608 := by decide
  have d3 : decide (s < 8388608) = true := decide_eq_true h
  have JN0 := Aside0.mk (fun W => join32 neg 0 s W (by decide) (by decide) hs0 h)
  have q0 := heap_alloc_new w (.cells #[.int .i64 8, .int .i64 23] 49)
  have qA := (heap_alloc_old (.cells #[.bool neg, .int .i64 k, .int .i64 ex, .int .u64 s] 46) (blk_lt q0)).trans q0
  have qB := heap_alloc_new (w.alloc (.cells #[.int .i64 8, .int .i64 23] 49)) (.cells #[.bool neg, .int .i64 k, .int .i64 ex, .int .u64 s] 46)
  obtain ⟨W0, hW0⟩ : ∃ W0, W0 = (w.alloc (.cells #[.int .i64 8, .int .i64 23] 49)).alloc (.cells #[.bool neg, .int .i64 k, .int .i64 ex, .int .u64 s] 46) := ⟨_, rfl⟩
  have H0 := Aside0.mk (show Below w.heap.size w W0 by rw [hW0]; exact (below_alloc (Below.refl _ _) _).alloc (by rw [World.size_alloc]; omega) _)
  rw [World.size_alloc] at qB
  rw [← hW0] at qA qB
  have kk0 := (blk_cell qA 0).trans rfl
  have kk1 := (blk_cell qA 1).trans rfl
  have QA := Aside0.mk qA
  have QB := Aside0.mk qB
  have KQ := Aside0.mk (show ∀ W : World, W.heap[w.heap.size]? = some (.cells #[.int .i64 8, .int .i64 23] 49 (0, 0)) → W.heap[w.heap.size + 1]? = some (.cells #[.bool neg, .int .i64 k, .int .i64 ex, .int .u64 s] 46 (0, 0)) → (fun W => W.cell? ⟨w.heap.size, 0, none⟩ = some (.int .i64 8) ∧ W.cell? ⟨w.heap.size, 1, none⟩ = some (.int .i64 23) ∧ W.cell? ⟨w.heap.size + 1, 0, none⟩ = some (.bool neg) ∧ W.cell? ⟨w.heap.size + 1, 1, none⟩ = some (.int .i64 k) ∧ W.cell? ⟨w.heap.size + 1, 2, none⟩ = some (.int .i64 ex) ∧ W.cell? ⟨w.heap.size + 1, 3, none⟩ = some (.int .u64 s)) W from fun W h1 h2 =>
    ⟨(blk_cell h1 0).trans rfl, (blk_cell h1 1).trans rfl, (blk_cell h2 0).trans rfl, (blk_cell h2 1).trans rfl, (blk_cell h2 2).trans rfl, (blk_cell h2 3).trans rfl⟩)
  have LO := Aside0.mk (low32 W0)
  rw [hW0] at LO kk0 kk1
  clear q0 qA qB
  go_enter Tryz.func163, Tryz.ntmps163
  go_wp2_with (first
    | (go_at_call 66; refine LO.out.mono ?_; rintro e w1 ⟨rfl, hb⟩
       rw [← hW0] at hb
       have H1 := Aside0.mk (below_then H0.out H0.out.size hb); have A1 := Aside0.mk ((hb.block _ (blk_lt QA.out)).trans QA.out); have B1 := Aside0.mk ((hb.block _ (blk_lt QB.out)).trans QB.out)
       clear hb)
    | fail)
  refine wp_region_held_drew (S := fun W => W.cell? ⟨w.heap.size, 0, none⟩ = some (.int .i64 8) ∧ W.cell? ⟨w.heap.size, 1, none⟩ = some (.int .i64 23) ∧ W.cell? ⟨w.heap.size + 1, 0, none⟩ = some (.bool neg) ∧ W.cell? ⟨w.heap.size + 1, 1, none⟩ = some (.int .i64 k) ∧ W.cell? ⟨w.heap.size + 1, 2, none⟩ = some (.int .i64 ex) ∧ W.cell? ⟨w.heap.size + 1, 3, none⟩ = some (.int .u64 s)) (by kernel_rfl) (KQ.out _ A1.out B1.out) (fun hHeld => ?_)
  refine tk (i := 0) ?_
  (try simp only [Act.put, g4, g5, g6])
  refine tk (i := 1) ?_
  (try simp only [Act.put, g4, g5, g6])
  refine tk (i := 2) ?_
  (try simp only [Act.put, g4, g5, g6])
  refine tk (i := 3) ?_
  (try simp only [Act.put, g4, g5, g6])
  refine tk (i := 4) ?_
  (try simp only [Act.put, g4, g5, g6])
  refine tk (i := 5) ?_
  (try simp only [Act.put, g4, g5, g6])
  refine tk (i := 6) ?_
  (try simp only [Act.put, g4, g5, g6])
  refine tk (i := 7) ?_
  (try simp only [Act.put, g4, g5, g6])
  refine tk (i := 8) ?_
  (try simp only [Act.put, g4, g5, g6])
  refine tk (i := 9) ?_
  (try simp only [Act.put, g4, g5, g6])
  refine tk (i := 10) ?_
  (try simp only [Act.put, g4, g5, g6])
  refine tk (i := 11) ?_
  (try simp only [Act.put, g4, g5, g6])
  refine tk (i := 12) ?_
  (try simp only [Act.put, g4, g5, g6])
  refine tk (i := 13) ?_
  (try simp only [Act.put, g4, g5, g6])
  refine tk (i := 14) ?_
  (try simp only [Act.put, g4, g5, g6])
  refine tk (i := 15) ?_
  (try simp only [Act.put, g4, g5, g6])
  refine tk (i := 16) ?_
  (try simp only [Act.put, g4, g5, g6])
  refine tk (i := 17) ?_
  (try simp only [Act.put, g4, g5, g6])
  refine wpAnyH_done (by kernel_rfl) ?_ _
  go_wp2
  refine wp_region_held_drew (S := fun W => W.cell? ⟨w.heap.size, 0, none⟩ = some (.int .i64 8) ∧ W.cell? ⟨w.heap.size, 1, none⟩ = some (.int .i64 23) ∧ W.cell? ⟨w.heap.size + 1, 0, none⟩ = some (.bool neg) ∧ W.cell? ⟨w.heap.size + 1, 1, none⟩ = some (.int .i64 k) ∧ W.cell? ⟨w.heap.size + 1, 2, none⟩ = some (.int .i64 ex) ∧ W.cell? ⟨w.heap.size + 1, 3, none⟩ = some (.int .u64 s)) (by kernel_rfl) (KQ.out _ A1.out B1.out) (fun hHeld => ?_)
  refine tk (i := 0) ?_
  (try simp only [Act.put, g4, g5, g6])
  refine tk (i := 1) ?_
  (try simp only [Act.put, g4, g5, g6])
  refine tk (i := 2) ?_
  (try simp only [Act.put, g4, g5, g6])
  refine tk (i := 3) ?_
  (try simp only [Act.put, g4, g5, g6])
  refine tk (i := 4) ?_
  (try simp only [Act.put, g4, g5, g6])
  refine tk (i := 5) ?_
  (try simp only [Act.put, g4, g5, g6])
  refine tk (i := 6) ?_
  (try simp only [Act.put, g4, g5, g6])
  refine wpAnyH_done (by kernel_rfl) ?_ _
  go_wp2
  have JN := Aside0.mk (JN0.out w1.drew.drew.drew)
  refine wp_region_held_drew (S := fun W => W.cell? ⟨w.heap.size, 0, none⟩ = some (.int .i64 8) ∧ W.cell? ⟨w.heap.size, 1, none⟩ = some (.int .i64 23) ∧ W.cell? ⟨w.heap.size + 1, 0, none⟩ = some (.bool neg) ∧ W.cell? ⟨w.heap.size + 1, 1, none⟩ = some (.int .i64 k) ∧ W.cell? ⟨w.heap.size + 1, 2, none⟩ = some (.int .i64 ex) ∧ W.cell? ⟨w.heap.size + 1, 3, none⟩ = some (.int .u64 s)) (by kernel_rfl) (KQ.out _ A1.out B1.out) (fun hHeld => ?_)
  refine tk (i := 0) ?_
  (try simp only [Act.put, g4, g5, g6])
  refine tk (i := 1) ?_
  (try simp only [Act.put, g4, g5, g6])
  refine tk (i := 2) ?_
  (try simp only [Act.put, g4, g5, g6])
  refine tk (i := 3) ?_
  (try simp only [Act.put, g4, g5, g6])
  refine tk (i := 4) ?_
  (try simp only [Act.put, g4, g5, g6])
  refine tk (i := 6) ?_
  (try simp only [Act.put, g4, g5, g6])
  refine tk (i := 7) ?_
  (try simp only [Act.put, g4, g5, g6])
  refine tk (i := 8) ?_
  (try simp only [Act.put, g4, g5, g6])
  refine tk (i := 9) ?_
  (try simp only [Act.put, g4, g5, g6])
  refine wpAnyH_ready (rs := [5]) (by kernel_rfl) (by simp) ?_
  refine AllReadyH.cons (o := ?o5) ?ho5_6 (fun K hK => ?_) AllReadyH.nil
  case ho5_6 => simp only [g1, g2, g3]; rfl
  go_simp
  refine JN.out.mono ?_
  rintro e w2 ⟨n, rfl, hn, hb⟩
  have H2 := Aside0.mk (below_then (below_drew (below_drew (below_drew H1.out))) (below_drew (below_drew (below_drew H1.out))).size hb)
  have A2 := Aside0.mk ((hb.block _ (blk_lt A1.out)).trans A1.out)
  have B2 := Aside0.mk ((hb.block _ (blk_lt B1.out)).trans B1.out)
  have HN := Aside0.mk hn
  clear hn hb
  refine hK.out _ _ (KQ.out _ A2.out B2.out) (fun hHeld2 => ?_)
  clear hK K hHeld
  have hHeld := hHeld2
  clear hHeld2
  (try simp only [Act.put, g4, g5, g6])
  refine tk (i := 10) ?_
  (try simp only [Act.put, g4, g5, g6])
  refine tk (i := 11) ?_
  (try simp only [Act.put, g4, g5, g6])
  refine wpAnyH_done (by kernel_rfl) ?_ _
  go_wp2
  refine bodyPost_ret (v := .tuple #[.int .u64 n, .bool (ex == -149)]) (by simp [results, Tryz.results163, go_sem]) rfl ?_
  exact ⟨n, _, rfl, HN.out, H2.out⟩
set_option maxRecDepth 100000 in
set_option maxHeartbeats 4000000 in
theorem finite32_norm (neg : Bool) (k ex s : Int) (w : World) (hx : ex ≤ 104) (hx0 : -9223372036854775808 ≤ ex) (hs : u64 s) (h0 : 8388608 ≤ s) (h : s < 16777216) (hl : -149 ≤ ex) : Calls Tryz.prog 163 #[.agg #[.int .i64 8, .int .i64 23], .agg #[.bool neg, .int .i64 k, .int .i64 ex, .int .u64 s]] w fun e w' => ∃ n ok, e = .returned (.tuple #[.int .u64 n, .bool ok]) ∧ Good 32 n ∧ Below w.heap.size w w' := by
  have hs0 := hs.1
  have hs1 := hs.2
  have d0 : ((s : Int) == 0) = false := beq_eq_false_iff_ne.2 (by omega)
  have d1 : decide (s ≥ 16777216) = false := decide_eq_false (by omega)
  have d2 : decide (ex < -149) = false := decide_eq_false (by omega)
  have w1_ : IntKind.u64.wrap 16777216 = 16777216 := by decide
  have w2_ : IntKind.u64.wrap 8388608 = 8388608 := by decide
  have d3 : decide (s < 8388608) = false := decide_eq_false (by omega)
  have d4 : decide (ex + 149 > 253) = false := decide_eq_false (by omega)
  have d5 : ¬ (253 < ex + 149) := by omega
  have wa : IntKind.i64.wrap (ex - -149) = ex + 149 := by simp only [IntKind.wrap_i64]; omega
  have wb : IntKind.i64.wrap (ex + 149) = ex + 149 := by simp only [IntKind.wrap_i64]; omega
  have wc : IntKind.u64.wrap (ex + 149) = ex + 149 := by simp only [IntKind.wrap_u64]; omega
  have wd : IntKind.u64.wrap (ex + 149 + 1) = ex + 149 + 1 := by simp only [IntKind.wrap_u64]; omega
  have we : IntKind.u64.wrap (8388608 - 1) = 8388607 := by decide
  have wf : IntKind.u64.wrap 8388607 = 8388607 := by decide
  have wg : IntKind.i64.wrap 255 = 255 := by decide
  have wh : IntKind.i64.wrap (255 - 2) = 253 := by decide
  have wi : IntKind.i64.wrap 253 = 253 := by decide
  have ba : bits .and .u64 s 8388607 = s % 8388608 := bits_mask .u64 64 (by decide) (fun n h0 h1 => by simp only [IntKind.wrap_u64]; omega) 23 (by decide) _ hs0 (by omega)
  have JN0 := Aside0.mk (fun W => join32 neg (ex + 149 + 1) (s % 8388608) W (by omega) (by omega) (by omega) (by omega))
  have q0 := heap_alloc_new w (.cells #[.int .i64 8, .int .i64 23] 49)
  have qA := (heap_alloc_old (.cells #[.bool neg, .int .i64 k, .int .i64 ex, .int .u64 s] 46) (blk_lt q0)).trans q0
  have qB := heap_alloc_new (w.alloc (.cells #[.int .i64 8, .int .i64 23] 49)) (.cells #[.bool neg, .int .i64 k, .int .i64 ex, .int .u64 s] 46)
  obtain ⟨W0, hW0⟩ : ∃ W0, W0 = (w.alloc (.cells #[.int .i64 8, .int .i64 23] 49)).alloc (.cells #[.bool neg, .int .i64 k, .int .i64 ex, .int .u64 s] 46) := ⟨_, rfl⟩
  have H0 := Aside0.mk (show Below w.heap.size w W0 by rw [hW0]; exact (below_alloc (Below.refl _ _) _).alloc (by rw [World.size_alloc]; omega) _)
  rw [World.size_alloc] at qB
  rw [← hW0] at qA qB
  have kk0 := (blk_cell qA 0).trans rfl
  have kk1 := (blk_cell qA 1).trans rfl
  have QA := Aside0.mk qA
  have QB := Aside0.mk qB
  have KQ := Aside0.mk (show ∀ W : World, W.heap[w.heap.size]? = some (.cells #[.int .i64 8, .int .i64 23] 49 (0, 0)) → W.heap[w.heap.size + 1]? = some (.cells #[.bool neg, .int .i64 k, .int .i64 ex, .int .u64 s] 46 (0, 0)) → (fun W => W.cell? ⟨w.heap.size, 0, none⟩ = some (.int .i64 8) ∧ W.cell? ⟨w.heap.size, 1, none⟩ = some (.int .i64 23) ∧ W.cell? ⟨w.heap.size + 1, 0, none⟩ = some (.bool neg) ∧ W.cell? ⟨w.heap.size + 1, 1, none⟩ = some (.int .i64 k) ∧ W.cell? ⟨w.heap.size + 1, 2, none⟩ = some (.int .i64 ex) ∧ W.cell? ⟨w.heap.size + 1, 3, none⟩ = some (.int .u64 s)) W from fun W h1 h2 =>
    ⟨(blk_cell h1 0).trans rfl, (blk_cell h1 1).trans rfl, (blk_cell h2 0).trans rfl, (blk_cell h2 1).trans rfl, (blk_cell h2 2).trans rfl, (blk_cell h2 3).trans rfl⟩)
  have LO := Aside0.mk (low32 W0)
  rw [hW0] at LO kk0 kk1
  clear q0 qA qB
  go_enter Tryz.func163, Tryz.ntmps163
  go_wp2_with (first
    | (go_at_call 66; refine LO.out.mono ?_; rintro e w1 ⟨rfl, hb⟩
       rw [← hW0] at hb
       have H1 := Aside0.mk (below_then H0.out H0.out.size hb); have A1 := Aside0.mk ((hb.block _ (blk_lt QA.out)).trans QA.out); have B1 := Aside0.mk ((hb.block _ (blk_lt QB.out)).trans QB.out)
       clear hb)
    | fail)
  refine wp_region_held_drew (S := fun W => W.cell? ⟨w.heap.size, 0, none⟩ = some (.int .i64 8) ∧ W.cell? ⟨w.heap.size, 1, none⟩ = some (.int .i64 23) ∧ W.cell? ⟨w.heap.size + 1, 0, none⟩ = some (.bool neg) ∧ W.cell? ⟨w.heap.size + 1, 1, none⟩ = some (.int .i64 k) ∧ W.cell? ⟨w.heap.size + 1, 2, none⟩ = some (.int .i64 ex) ∧ W.cell? ⟨w.heap.size + 1, 3, none⟩ = some (.int .u64 s)) (by kernel_rfl) (KQ.out _ A1.out B1.out) (fun hHeld => ?_)
  refine tk (i := 0) ?_
  (try simp only [Act.put, g4, g5, g6])
  refine tk (i := 1) ?_
  (try simp only [Act.put, g4, g5, g6])
  refine tk (i := 2) ?_
  (try simp only [Act.put, g4, g5, g6])
  refine tk (i := 3) ?_
  (try simp only [Act.put, g4, g5, g6])
  refine tk (i := 4) ?_
  (try simp only [Act.put, g4, g5, g6])
  refine tk (i := 5) ?_
  (try simp only [Act.put, g4, g5, g6])
  refine tk (i := 6) ?_
  (try simp only [Act.put, g4, g5, g6])
  refine tk (i := 7) ?_
  (try simp only [Act.put, g4, g5, g6])
  refine tk (i := 8) ?_
  (try simp only [Act.put, g4, g5, g6])
  refine tk (i := 9) ?_
  (try simp only [Act.put, g4, g5, g6])
  refine tk (i := 10) ?_
  (try simp only [Act.put, g4, g5, g6])
  refine tk (i := 11) ?_
  (try simp only [Act.put, g4, g5, g6])
  refine tk (i := 12) ?_
  (try simp only [Act.put, g4, g5, g6])
  refine tk (i := 13) ?_
  (try simp only [Act.put, g4, g5, g6])
  refine tk (i := 14) ?_
  (try simp only [Act.put, g4, g5, g6])
  refine tk (i := 15) ?_
  (try simp only [Act.put, g4, g5, g6])
  refine tk (i := 16) ?_
  (try simp only [Act.put, g4, g5, g6])
  refine tk (i := 17) ?_
  (try simp only [Act.put, g4, g5, g6])
  refine wpAnyH_done (by kernel_rfl) ?_ _
  go_wp2
  refine wp_region_held_drew (S := fun W => W.cell? ⟨w.heap.size, 0, none⟩ = some (.int .i64 8) ∧ W.cell? ⟨w.heap.size, 1, none⟩ = some (.int .i64 23) ∧ W.cell? ⟨w.heap.size + 1, 0, none⟩ = some (.bool neg) ∧ W.cell? ⟨w.heap.size + 1, 1, none⟩ = some (.int .i64 k) ∧ W.cell? ⟨w.heap.size + 1, 2, none⟩ = some (.int .i64 ex) ∧ W.cell? ⟨w.heap.size + 1, 3, none⟩ = some (.int .u64 s)) (by kernel_rfl) (KQ.out _ A1.out B1.out) (fun hHeld => ?_)
  refine tk (i := 0) ?_
  (try simp only [Act.put, g4, g5, g6])
  refine tk (i := 1) ?_
  (try simp only [Act.put, g4, g5, g6])
  refine tk (i := 2) ?_
  (try simp only [Act.put, g4, g5, g6])
  refine tk (i := 3) ?_
  (try simp only [Act.put, g4, g5, g6])
  refine tk (i := 4) ?_
  (try simp only [Act.put, g4, g5, g6])
  refine tk (i := 5) ?_
  (try simp only [Act.put, g4, g5, g6])
  refine tk (i := 6) ?_
  (try simp only [Act.put, g4, g5, g6])
  refine wpAnyH_done (by kernel_rfl) ?_ _
  go_wp2
  refine wp_region_held_drew (S := fun W => W.cell? ⟨w.heap.size, 0, none⟩ = some (.int .i64 8) ∧ W.cell? ⟨w.heap.size, 1, none⟩ = some (.int .i64 23) ∧ W.cell? ⟨w.heap.size + 1, 0, none⟩ = some (.bool neg) ∧ W.cell? ⟨w.heap.size + 1, 1, none⟩ = some (.int .i64 k) ∧ W.cell? ⟨w.heap.size + 1, 2, none⟩ = some (.int .i64 ex) ∧ W.cell? ⟨w.heap.size + 1, 3, none⟩ = some (.int .u64 s)) (by kernel_rfl) (KQ.out _ A1.out B1.out) (fun hHeld => ?_)
  refine tk (i := 0) ?_
  (try simp only [Act.put, g4, g5, g6])
  refine tk (i := 1) ?_
  (try simp only [Act.put, g4, g5, g6])
  refine tk (i := 2) ?_
  (try simp only [Act.put, g4, g5, g6])
  refine tk (i := 3) ?_
  (try simp only [Act.put, g4, g5, g6])
  refine tk (i := 4) ?_
  (try simp only [Act.put, g4, g5, g6])
  refine wpAnyH_ready (rs := [5]) (by kernel_rfl) (by simp) ?_
  refine AllReadyH.cons (o := ?o5) ?ho5_7 (fun K hK => ?_) AllReadyH.nil
  case ho5_7 => simp only [g1, g2, g3]; rfl
  go_simp
  refine (ones32 _).mono ?_
  rintro e w2 ⟨rfl, hb⟩
  have H2 := Aside0.mk (below_then (below_drew (below_drew (below_drew H1.out))) (below_drew (below_drew (below_drew H1.out))).size hb)
  have A2 := Aside0.mk ((hb.block _ (blk_lt A1.out)).trans A1.out)
  have B2 := Aside0.mk ((hb.block _ (blk_lt B1.out)).trans B1.out)
  clear hb
  refine hK.out _ _ (KQ.out _ A2.out B2.out) (fun hHeld2 => ?_)
  clear hK K hHeld
  have hHeld := hHeld2
  clear hHeld2
  (try simp only [Act.put, g4, g5, g6])
  refine tk (i := 6) ?_
  (try simp only [Act.put, g4, g5, g6])
  refine tk (i := 7) ?_
  (try simp only [Act.put, g4, g5, g6])
  refine tk (i := 8) ?_
  (try simp only [Act.put, g4, g5, g6])
  refine tk (i := 9) ?_
  (try simp only [Act.put, g4, g5, g6])
  refine wpAnyH_done (by kernel_rfl) ?_ _
  go_wp2
  have JN := Aside0.mk (JN0.out w2.drew)
  refine wp_region_held_drew (S := fun W => W.cell? ⟨w.heap.size, 0, none⟩ = some (.int .i64 8) ∧ W.cell? ⟨w.heap.size, 1, none⟩ = some (.int .i64 23) ∧ W.cell? ⟨w.heap.size + 1, 0, none⟩ = some (.bool neg) ∧ W.cell? ⟨w.heap.size + 1, 1, none⟩ = some (.int .i64 k) ∧ W.cell? ⟨w.heap.size + 1, 2, none⟩ = some (.int .i64 ex) ∧ W.cell? ⟨w.heap.size + 1, 3, none⟩ = some (.int .u64 s)) (by kernel_rfl) (KQ.out _ A2.out B2.out) (fun hHeld => ?_)
  refine tk (i := 0) ?_
  (try simp only [Act.put, g4, g5, g6])
  refine tk (i := 1) ?_
  (try simp only [Act.put, g4, g5, g6])
  refine tk (i := 2) ?_
  (try simp only [Act.put, g4, g5, g6])
  refine tk (i := 3) ?_
  (try simp only [Act.put, g4, g5, g6])
  refine tk (i := 4) ?_
  (try simp only [Act.put, g4, g5, g6])
  refine tk (i := 5) ?_
  (try simp only [Act.put, g4, g5, g6])
  refine tk (i := 6) ?_
  (try simp only [Act.put, g4, g5, g6])
  refine tk (i := 7) ?_
  (try simp only [Act.put, g4, g5, g6])
  refine tk (i := 8) ?_
  (try simp only [Act.put, g4, g5, g6])
  refine tk (i := 9) ?_
  (try simp only [Act.put, g4, g5, g6])
  refine tk (i := 10) ?_
  (try simp only [Act.put, g4, g5, g6])
  refine tk (i := 11) ?_
  (try simp only [Act.put, g4, g5, g6])
  refine tk (i := 12) ?_
  (try simp only [Act.put, g4, g5, g6])
  refine tk (i := 13) ?_
  (try simp only [Act.put, g4, g5, g6])
  refine tk (i := 14) ?_
  (try simp only [Act.put, g4, g5, g6])
  refine tk (i := 15) ?_
  (try simp only [Act.put, g4, g5, g6])
  refine wpAnyH_ready (rs := [16]) (by kernel_rfl) (by simp) ?_
  refine AllReadyH.cons (o := ?o16) ?ho16_8 (fun K hK => ?_) AllReadyH.nil
  case ho16_8 => simp only [g1, g2, g3]; rfl
  go_simp
  refine JN.out.mono ?_
  rintro e w3 ⟨n, rfl, hn, hb⟩
  have H3 := Aside0.mk (below_then (below_drew H2.out) (below_drew H2.out).size hb)
  have A3 := Aside0.mk ((hb.block _ (blk_lt A2.out)).trans A2.out)
  have B3 := Aside0.mk ((hb.block _ (blk_lt B2.out)).trans B2.out)
  have HN := Aside0.mk hn
  clear hn hb
  refine hK.out _ _ (KQ.out _ A3.out B3.out) (fun hHeld2 => ?_)
  clear hK K hHeld
  have hHeld := hHeld2
  clear hHeld2
  (try simp only [Act.put, g4, g5, g6])
  refine tk (i := 17) ?_
  (try simp only [Act.put, g4, g5, g6])
  refine tk (i := 18) ?_
  (try simp only [Act.put, g4, g5, g6])
  refine wpAnyH_done (by kernel_rfl) ?_ _
  go_wp2
  refine bodyPost_ret (v := .tuple #[.int .u64 n, .bool true]) (by simp [results, Tryz.results163, go_sem]) rfl ?_
  exact ⟨n, _, rfl, HN.out, H3.out⟩
/-- A finite float of its parts is good. -/
theorem finite32 (neg : Bool) (k ex s : Int) (w : World) (hx : ex ≤ 104) (hx0 : -9223372036854775808 ≤ ex) (hs : u64 s) : Calls Tryz.prog 163 #[.agg #[.int .i64 8, .int .i64 23], .agg #[.bool neg, .int .i64 k, .int .i64 ex, .int .u64 s]] w fun e w' => ∃ n ok, e = .returned (.tuple #[.int .u64 n, .bool ok]) ∧ Good 32 n ∧ Below w.heap.size w w' := by
  by_cases c0 : s = 0
  · exact finite32_zero neg k ex s w hx hx0 hs c0
  have c0' : 0 < s := by have := hs.1; omega
  by_cases c1 : 16777216 ≤ s
  · exact finite32_big neg k ex s w hx hx0 hs c1
  by_cases c2 : ex < -149
  · exact finite32_low neg k ex s w hx hx0 hs c0' (by omega) c2
  by_cases c3 : s < 8388608
  · exact finite32_sub neg k ex s w hx hx0 hs c0' c3 (by omega)
  · exact finite32_norm neg k ex s w hx hx0 hs (by omega) (by omega) (by omega)
set_option maxRecDepth 100000 in
set_option maxHeartbeats 4000000 in
theorem Close32 (neg : Bool) (ex s : Int) (w : World) (hx : ex ≤ 104) (hx0 : -9223372036854775808 ≤ ex) (hs : u64 s) : Calls Tryz.prog 156 #[.int .i64 32, .agg #[.bool neg, .int .i64 1, .int .i64 ex, .int .u64 s]] w fun e w' => ∃ n er, e = .returned (.tuple #[.int .u64 n, .int .i64 er]) ∧ Good 32 n ∧ Below w.heap.size w w' := by
  have q0 := heap_alloc_new w (.cells #[.bool neg, .int .i64 1, .int .i64 ex, .int .u64 s] 46)
  have QA := Aside0.mk q0
  have H0 := Aside0.mk (below_alloc (Below.refl w.heap.size w) (.cells #[.bool neg, .int .i64 1, .int .i64 ex, .int .u64 s] 46))
  have FC := Aside0.mk (fun W => finite32 neg 1 ex s W hx hx0 hs)
  clear q0 hx hx0 hs
  go_enter Tryz.func156, Tryz.ntmps156
  go_wp2_with (first
    | (go_at_call 24; refine (of32 _).mono ?_; rintro e w1 ⟨rfl, hb⟩
       have q1 := (hb.block _ (blk_lt QA.out)).trans QA.out
       have q2 := (heap_alloc_old (.cells #[.int .i64 8, .int .i64 23] 49) (blk_lt q1)).trans q1
       have y0 := (blk_cell q2 0).trans rfl
       have y1 := (blk_cell q2 1).trans rfl
       have y2 := (blk_cell q2 2).trans rfl
       have y3 := (blk_cell q2 3).trans rfl
       have h1 := below_then H0.out H0.out.size hb
       have H1 := Aside0.mk (h1.alloc h1.size (.cells #[.int .i64 8, .int .i64 23] 49))
       clear hb q1 q2 h1)
    | fail)
  refine (FC.out _).mono ?_
  rintro e w2 ⟨n, ok, rfl, hn, hb⟩
  have H2 := Aside0.mk (below_then H1.out H1.out.size hb)
  have HN := Aside0.mk hn
  clear hn hb y0 y1 y2 y3
  cases ok
  · go_wp2
    refine bodyPost_ret (v := .tuple #[.int .u64 0, .int .i64 2]) (by simp [results, Tryz.results156, go_sem]) rfl ?_
    exact ⟨0, 2, rfl, ⟨by unfold u64; decide, .inl (by unfold isN; decide)⟩, H2.out⟩
  · go_wp2
    refine bodyPost_ret (v := .tuple #[.int .u64 n, .int .i64 0]) (by simp [results, Tryz.results156, go_sem]) rfl ?_
    exact ⟨n, 0, rfl, HN.out, H2.out⟩
theorem Zero64 (neg : Bool) (w : World) : Calls Tryz.prog 92 #[.int .i64 64, .bool neg] w fun e w' => e = .returned (.int .u64 (if neg then 9223372036854775808 else 0)) ∧ Below w.heap.size w w' := by
  cases neg
  · exact shape_Zero.calls 64 false 0 w (by decide +kernel)
  · exact shape_Zero.calls 64 true 9223372036854775808 w (by decide +kernel)
theorem Zero64_good (neg : Bool) (w : World) : Calls Tryz.prog 92 #[.int .i64 64, .bool neg] w (GoodP w 64) := by
  refine (Zero64 neg w).mono ?_
  rintro e w' ⟨rfl, hb⟩
  refine ⟨_, rfl, ?_, hb⟩
  cases neg
  · exact ⟨by unfold u64; decide, .inl (by unfold isN; decide)⟩
  · exact ⟨by unfold u64; decide, .inl (by unfold isN; decide)⟩
theorem Inf64_good (neg : Bool) (w : World) : Calls Tryz.prog 93 #[.int .i64 64, .bool neg] w (GoodP w 64) := by
  cases neg
  · refine (shape_Inf.calls 64 false 9218868437227405312 w (by decide +kernel)).mono ?_
    rintro e w' ⟨rfl, hb⟩
    exact ⟨_, rfl, ⟨by unfold u64; decide, .inl (by unfold isN; decide)⟩, hb⟩
  · refine (shape_Inf.calls 64 true 18442240474082181120 w (by decide +kernel)).mono ?_
    rintro e w' ⟨rfl, hb⟩
    exact ⟨_, rfl, ⟨by unfold u64; decide, .inl (by unfold isN; decide)⟩, hb⟩
theorem Nan64 (w : World) : Calls Tryz.prog 7 #[.int .i64 64] w fun e w' => e = .returned (.int .u64 (cN 64)) ∧ Below w.heap.size w w' :=
  shape_Nan.calls 64 (cN 64) w (by decide +kernel)
theorem cN64_good : Good 64 (cN 64) := ⟨by unfold u64 cN; decide, .inr rfl⟩
theorem join64 (neg : Bool) (E fr : Int) (w : World) (e0 : 0 ≤ E) (e1 : E < 2047) (f0 : 0 ≤ fr) (f1 : fr < 4503599627370496) : Calls Tryz.prog 25 #[.agg #[.int .i64 11, .int .i64 52], .bool neg, .int .u64 E, .int .u64 fr] w (GoodP w 64) := by
  have hw : ∀ n : Int, 0 ≤ n → n < 2 ^ 64 → IntKind.u64.wrap n = n := fun n h0 h1 => by simp only [IntKind.wrap_u64]; omega
  have hs : shl .u64 E 52 = E * 4503599627370496 := by
    show IntKind.u64.wrap (E * 2 ^ 52) = _
    rw [show (2 : Int) ^ 52 = 4503599627370496 by decide, IntKind.wrap_u64]
    omega
  have hg : ∀ s : Int, (s = 0 ∨ s = 9223372036854775808) → bits .or .u64 (bits .or .u64 s (E * 4503599627370496)) fr = s + E * 4503599627370496 + fr := fun s h => by
    rw [bits_join .u64 64 (by decide) hw 63 s (E * 4503599627370496) (by omega) (by rcases h with rfl | rfl <;> decide) (by omega) (by omega) (by omega) (by omega)]
    exact bits_join .u64 64 (by decide) hw 52 _ fr (by omega) (by omega) (by omega) f0 (by omega) (by omega)
  have hn : ∀ s : Int, (s = 0 ∨ s = 9223372036854775808) → Good 64 (s + E * 4503599627370496 + fr) := fun s h => ⟨by unfold u64; omega, .inl (by unfold isN; simp; omega)⟩
  cases neg
  · refine (shape_format_join.calls 11 52 false E fr _ w (show shape_format_join.f 11 52 false E fr = some (0 + E * 4503599627370496 + fr) from ?_)).mono ?_
    · unfold shape_format_join.f
      rw [show shape_format_sign.f 11 52 false = some 0 by decide +kernel]
      simp only [Option.bind_some]
      rw [if_pos (by decide), hs, hg 0 (.inl rfl)]
    · rintro e w' ⟨rfl, hb⟩
      exact ⟨_, rfl, hn 0 (.inl rfl), hb⟩
  · refine (shape_format_join.calls 11 52 true E fr _ w (show shape_format_join.f 11 52 true E fr = some (9223372036854775808 + E * 4503599627370496 + fr) from ?_)).mono ?_
    · unfold shape_format_join.f
      rw [show shape_format_sign.f 11 52 true = some 9223372036854775808 by decide +kernel]
      simp only [Option.bind_some]
      rw [if_pos (by decide), hs, hg 9223372036854775808 (.inr rfl)]
    · rintro e w' ⟨rfl, hb⟩
      exact ⟨_, rfl, hn 9223372036854775808 (.inr rfl), hb⟩
set_option maxRecDepth 100000 in
set_option maxHeartbeats 4000000 in
theorem finite64_zero (neg : Bool) (k ex s : Int) (w : World) (hx : ex ≤ 971) (hx0 : -9223372036854775808 ≤ ex) (hs : u64 s) (h : s = 0) : Calls Tryz.prog 163 #[.agg #[.int .i64 11, .int .i64 52], .agg #[.bool neg, .int .i64 k, .int .i64 ex, .int .u64 s]] w fun e w' => ∃ n ok, e = .returned (.tuple #[.int .u64 n, .bool ok]) ∧ Good 64 n ∧ Below w.heap.size w w' := by
  have hs0 := hs.1
  have hs1 := hs.2
  have d0 : ((s : Int) == 0) = true := beq_iff_eq.2 h
  clear h
  have q0 := heap_alloc_new w (.cells #[.int .i64 11, .int .i64 52] 49)
  have qA := (heap_alloc_old (.cells #[.bool neg, .int .i64 k, .int .i64 ex, .int .u64 s] 46) (blk_lt q0)).trans q0
  have qB := heap_alloc_new (w.alloc (.cells #[.int .i64 11, .int .i64 52] 49)) (.cells #[.bool neg, .int .i64 k, .int .i64 ex, .int .u64 s] 46)
  obtain ⟨W0, hW0⟩ : ∃ W0, W0 = (w.alloc (.cells #[.int .i64 11, .int .i64 52] 49)).alloc (.cells #[.bool neg, .int .i64 k, .int .i64 ex, .int .u64 s] 46) := ⟨_, rfl⟩
  have H0 := Aside0.mk (show Below w.heap.size w W0 by rw [hW0]; exact (below_alloc (Below.refl _ _) _).alloc (by rw [World.size_alloc]; omega) _)
  rw [World.size_alloc] at qB
  rw [← hW0] at qA qB
  have kk0 := (blk_cell qA 0).trans rfl
  have kk1 := (blk_cell qA 1).trans rfl
  have QA := Aside0.mk qA
  have QB := Aside0.mk qB
  have KQ := Aside0.mk (show ∀ W : World, W.heap[w.heap.size]? = some (.cells #[.int .i64 11, .int .i64 52] 49 (0, 0)) → W.heap[w.heap.size + 1]? = some (.cells #[.bool neg, .int .i64 k, .int .i64 ex, .int .u64 s] 46 (0, 0)) → (fun W => W.cell? ⟨w.heap.size, 0, none⟩ = some (.int .i64 11) ∧ W.cell? ⟨w.heap.size, 1, none⟩ = some (.int .i64 52) ∧ W.cell? ⟨w.heap.size + 1, 0, none⟩ = some (.bool neg) ∧ W.cell? ⟨w.heap.size + 1, 1, none⟩ = some (.int .i64 k) ∧ W.cell? ⟨w.heap.size + 1, 2, none⟩ = some (.int .i64 ex) ∧ W.cell? ⟨w.heap.size + 1, 3, none⟩ = some (.int .u64 s)) W from fun W h1 h2 =>
    ⟨(blk_cell h1 0).trans rfl, (blk_cell h1 1).trans rfl, (blk_cell h2 0).trans rfl, (blk_cell h2 1).trans rfl, (blk_cell h2 2).trans rfl, (blk_cell h2 3).trans rfl⟩)
  have LO := Aside0.mk (low64 W0)
  rw [hW0] at LO kk0 kk1
  clear q0 qA qB
  go_enter Tryz.func163, Tryz.ntmps163
  go_wp2_with (first
    | (go_at_call 66; refine LO.out.mono ?_; rintro e w1 ⟨rfl, hb⟩
       rw [← hW0] at hb
       have H1 := Aside0.mk (below_then H0.out H0.out.size hb); have A1 := Aside0.mk ((hb.block _ (blk_lt QA.out)).trans QA.out); have B1 := Aside0.mk ((hb.block _ (blk_lt QB.out)).trans QB.out)
       clear hb)
    | fail)
  refine wp_region_held_drew (S := fun W => W.cell? ⟨w.heap.size, 0, none⟩ = some (.int .i64 11) ∧ W.cell? ⟨w.heap.size, 1, none⟩ = some (.int .i64 52) ∧ W.cell? ⟨w.heap.size + 1, 0, none⟩ = some (.bool neg) ∧ W.cell? ⟨w.heap.size + 1, 1, none⟩ = some (.int .i64 k) ∧ W.cell? ⟨w.heap.size + 1, 2, none⟩ = some (.int .i64 ex) ∧ W.cell? ⟨w.heap.size + 1, 3, none⟩ = some (.int .u64 s)) (by kernel_rfl) (KQ.out _ A1.out B1.out) (fun hHeld => ?_)
  refine tk (i := 0) ?_
  (try simp only [Act.put, g4, g5, g6])
  refine tk (i := 1) ?_
  (try simp only [Act.put, g4, g5, g6])
  refine tk (i := 2) ?_
  (try simp only [Act.put, g4, g5, g6])
  refine tk (i := 3) ?_
  (try simp only [Act.put, g4, g5, g6])
  refine sk (i := 4) ?_
  (try simp only [Act.put, g4, g5, g6])
  refine sk (i := 5) ?_
  (try simp only [Act.put, g4, g5, g6])
  refine sk (i := 6) ?_
  (try simp only [Act.put, g4, g5, g6])
  refine sk (i := 7) ?_
  (try simp only [Act.put, g4, g5, g6])
  refine sk (i := 8) ?_
  (try simp only [Act.put, g4, g5, g6])
  refine sk (i := 9) ?_
  (try simp only [Act.put, g4, g5, g6])
  refine tk (i := 10) ?_
  (try simp only [Act.put, g4, g5, g6])
  refine tk (i := 11) ?_
  (try simp only [Act.put, g4, g5, g6])
  refine sk (i := 12) ?_
  (try simp only [Act.put, g4, g5, g6])
  refine sk (i := 13) ?_
  (try simp only [Act.put, g4, g5, g6])
  refine sk (i := 14) ?_
  (try simp only [Act.put, g4, g5, g6])
  refine sk (i := 15) ?_
  (try simp only [Act.put, g4, g5, g6])
  refine tk (i := 16) ?_
  (try simp only [Act.put, g4, g5, g6])
  refine tk (i := 17) ?_
  (try simp only [Act.put, g4, g5, g6])
  refine wpAnyH_done (by kernel_rfl) ?_ _
  go_wp2
  refine bodyPost_ret (v := .tuple #[.int .u64 0, .bool false]) (by simp [results, Tryz.results163, go_sem]) rfl ?_
  exact ⟨0, false, rfl, ⟨by unfold u64; decide, .inl (by unfold isN; decide)⟩, below_drew H1.out⟩
set_option maxRecDepth 100000 in
set_option maxHeartbeats 4000000 in
theorem finite64_big (neg : Bool) (k ex s : Int) (w : World) (hx : ex ≤ 971) (hx0 : -9223372036854775808 ≤ ex) (hs : u64 s) (h : 9007199254740992 ≤ s) : Calls Tryz.prog 163 #[.agg #[.int .i64 11, .int .i64 52], .agg #[.bool neg, .int .i64 k, .int .i64 ex, .int .u64 s]] w fun e w' => ∃ n ok, e = .returned (.tuple #[.int .u64 n, .bool ok]) ∧ Good 64 n ∧ Below w.heap.size w w' := by
  have hs0 := hs.1
  have hs1 := hs.2
  have d0 : ((s : Int) == 0) = false := beq_eq_false_iff_ne.2 (by omega)
  have d1 : decide (s ≥ 9007199254740992) = true := decide_eq_true h
  have w1_ : IntKind.u64.wrap 9007199254740992 = 9007199254740992 := by decide
  have q0 := heap_alloc_new w (.cells #[.int .i64 11, .int .i64 52] 49)
  have qA := (heap_alloc_old (.cells #[.bool neg, .int .i64 k, .int .i64 ex, .int .u64 s] 46) (blk_lt q0)).trans q0
  have qB := heap_alloc_new (w.alloc (.cells #[.int .i64 11, .int .i64 52] 49)) (.cells #[.bool neg, .int .i64 k, .int .i64 ex, .int .u64 s] 46)
  obtain ⟨W0, hW0⟩ : ∃ W0, W0 = (w.alloc (.cells #[.int .i64 11, .int .i64 52] 49)).alloc (.cells #[.bool neg, .int .i64 k, .int .i64 ex, .int .u64 s] 46) := ⟨_, rfl⟩
  have H0 := Aside0.mk (show Below w.heap.size w W0 by rw [hW0]; exact (below_alloc (Below.refl _ _) _).alloc (by rw [World.size_alloc]; omega) _)
  rw [World.size_alloc] at qB
  rw [← hW0] at qA qB
  have kk0 := (blk_cell qA 0).trans rfl
  have kk1 := (blk_cell qA 1).trans rfl
  have QA := Aside0.mk qA
  have QB := Aside0.mk qB
  have KQ := Aside0.mk (show ∀ W : World, W.heap[w.heap.size]? = some (.cells #[.int .i64 11, .int .i64 52] 49 (0, 0)) → W.heap[w.heap.size + 1]? = some (.cells #[.bool neg, .int .i64 k, .int .i64 ex, .int .u64 s] 46 (0, 0)) → (fun W => W.cell? ⟨w.heap.size, 0, none⟩ = some (.int .i64 11) ∧ W.cell? ⟨w.heap.size, 1, none⟩ = some (.int .i64 52) ∧ W.cell? ⟨w.heap.size + 1, 0, none⟩ = some (.bool neg) ∧ W.cell? ⟨w.heap.size + 1, 1, none⟩ = some (.int .i64 k) ∧ W.cell? ⟨w.heap.size + 1, 2, none⟩ = some (.int .i64 ex) ∧ W.cell? ⟨w.heap.size + 1, 3, none⟩ = some (.int .u64 s)) W from fun W h1 h2 =>
    ⟨(blk_cell h1 0).trans rfl, (blk_cell h1 1).trans rfl, (blk_cell h2 0).trans rfl, (blk_cell h2 1).trans rfl, (blk_cell h2 2).trans rfl, (blk_cell h2 3).trans rfl⟩)
  have LO := Aside0.mk (low64 W0)
  rw [hW0] at LO kk0 kk1
  clear q0 qA qB
  go_enter Tryz.func163, Tryz.ntmps163
  go_wp2_with (first
    | (go_at_call 66; refine LO.out.mono ?_; rintro e w1 ⟨rfl, hb⟩
       rw [← hW0] at hb
       have H1 := Aside0.mk (below_then H0.out H0.out.size hb); have A1 := Aside0.mk ((hb.block _ (blk_lt QA.out)).trans QA.out); have B1 := Aside0.mk ((hb.block _ (blk_lt QB.out)).trans QB.out)
       clear hb)
    | fail)
  refine wp_region_held_drew (S := fun W => W.cell? ⟨w.heap.size, 0, none⟩ = some (.int .i64 11) ∧ W.cell? ⟨w.heap.size, 1, none⟩ = some (.int .i64 52) ∧ W.cell? ⟨w.heap.size + 1, 0, none⟩ = some (.bool neg) ∧ W.cell? ⟨w.heap.size + 1, 1, none⟩ = some (.int .i64 k) ∧ W.cell? ⟨w.heap.size + 1, 2, none⟩ = some (.int .i64 ex) ∧ W.cell? ⟨w.heap.size + 1, 3, none⟩ = some (.int .u64 s)) (by kernel_rfl) (KQ.out _ A1.out B1.out) (fun hHeld => ?_)
  refine tk (i := 0) ?_
  (try simp only [Act.put, g4, g5, g6])
  refine tk (i := 1) ?_
  (try simp only [Act.put, g4, g5, g6])
  refine tk (i := 2) ?_
  (try simp only [Act.put, g4, g5, g6])
  refine tk (i := 3) ?_
  (try simp only [Act.put, g4, g5, g6])
  refine tk (i := 4) ?_
  (try simp only [Act.put, g4, g5, g6])
  refine tk (i := 5) ?_
  (try simp only [Act.put, g4, g5, g6])
  refine tk (i := 6) ?_
  (try simp only [Act.put, g4, g5, g6])
  refine tk (i := 7) ?_
  (try simp only [Act.put, g4, g5, g6])
  refine tk (i := 8) ?_
  (try simp only [Act.put, g4, g5, g6])
  refine tk (i := 9) ?_
  (try simp only [Act.put, g4, g5, g6])
  refine tk (i := 10) ?_
  (try simp only [Act.put, g4, g5, g6])
  refine tk (i := 11) ?_
  (try simp only [Act.put, g4, g5, g6])
  refine sk (i := 12) ?_
  (try simp only [Act.put, g4, g5, g6])
  refine sk (i := 13) ?_
  (try simp only [Act.put, g4, g5, g6])
  refine sk (i := 14) ?_
  (try simp only [Act.put, g4, g5, g6])
  refine sk (i := 15) ?_
  (try simp only [Act.put, g4, g5, g6])
  refine tk (i := 16) ?_
  (try simp only [Act.put, g4, g5, g6])
  refine tk (i := 17) ?_
  (try simp only [Act.put, g4, g5, g6])
  refine wpAnyH_done (by kernel_rfl) ?_ _
  go_wp2
  refine bodyPost_ret (v := .tuple #[.int .u64 0, .bool false]) (by simp [results, Tryz.results163, go_sem]) rfl ?_
  exact ⟨0, false, rfl, ⟨by unfold u64; decide, .inl (by unfold isN; decide)⟩, below_drew H1.out⟩
set_option maxRecDepth 100000 in
set_option maxHeartbeats 4000000 in
theorem finite64_low (neg : Bool) (k ex s : Int) (w : World) (hx : ex ≤ 971) (hx0 : -9223372036854775808 ≤ ex) (hs : u64 s) (h0 : 0 < s) (h : s < 9007199254740992) (hl : ex < -1074) : Calls Tryz.prog 163 #[.agg #[.int .i64 11, .int .i64 52], .agg #[.bool neg, .int .i64 k, .int .i64 ex, .int .u64 s]] w fun e w' => ∃ n ok, e = .returned (.tuple #[.int .u64 n, .bool ok]) ∧ Good 64 n ∧ Below w.heap.size w w' := by
  have hs0 := hs.1
  have hs1 := hs.2
  have d0 : ((s : Int) == 0) = false := beq_eq_false_iff_ne.2 (by omega)
  have d1 : decide (s ≥ 9007199254740992) = false := decide_eq_false (by omega)
  have d2 : decide (ex < -1074) = true := decide_eq_true hl
  have w1_ : IntKind.u64.wrap 9007199254740992 = 9007199254740992 := by decide
  have q0 := heap_alloc_new w (.cells #[.int .i64 11, .int .i64 52] 49)
  have qA := (heap_alloc_old (.cells #[.bool neg, .int .i64 k, .int .i64 ex, .int .u64 s] 46) (blk_lt q0)).trans q0
  have qB := heap_alloc_new (w.alloc (.cells #[.int .i64 11, .int .i64 52] 49)) (.cells #[.bool neg, .int .i64 k, .int .i64 ex, .int .u64 s] 46)
  obtain ⟨W0, hW0⟩ : ∃ W0, W0 = (w.alloc (.cells #[.int .i64 11, .int .i64 52] 49)).alloc (.cells #[.bool neg, .int .i64 k, .int .i64 ex, .int .u64 s] 46) := ⟨_, rfl⟩
  have H0 := Aside0.mk (show Below w.heap.size w W0 by rw [hW0]; exact (below_alloc (Below.refl _ _) _).alloc (by rw [World.size_alloc]; omega) _)
  rw [World.size_alloc] at qB
  rw [← hW0] at qA qB
  have kk0 := (blk_cell qA 0).trans rfl
  have kk1 := (blk_cell qA 1).trans rfl
  have QA := Aside0.mk qA
  have QB := Aside0.mk qB
  have KQ := Aside0.mk (show ∀ W : World, W.heap[w.heap.size]? = some (.cells #[.int .i64 11, .int .i64 52] 49 (0, 0)) → W.heap[w.heap.size + 1]? = some (.cells #[.bool neg, .int .i64 k, .int .i64 ex, .int .u64 s] 46 (0, 0)) → (fun W => W.cell? ⟨w.heap.size, 0, none⟩ = some (.int .i64 11) ∧ W.cell? ⟨w.heap.size, 1, none⟩ = some (.int .i64 52) ∧ W.cell? ⟨w.heap.size + 1, 0, none⟩ = some (.bool neg) ∧ W.cell? ⟨w.heap.size + 1, 1, none⟩ = some (.int .i64 k) ∧ W.cell? ⟨w.heap.size + 1, 2, none⟩ = some (.int .i64 ex) ∧ W.cell? ⟨w.heap.size + 1, 3, none⟩ = some (.int .u64 s)) W from fun W h1 h2 =>
    ⟨(blk_cell h1 0).trans rfl, (blk_cell h1 1).trans rfl, (blk_cell h2 0).trans rfl, (blk_cell h2 1).trans rfl, (blk_cell h2 2).trans rfl, (blk_cell h2 3).trans rfl⟩)
  have LO := Aside0.mk (low64 W0)
  rw [hW0] at LO kk0 kk1
  clear q0 qA qB
  go_enter Tryz.func163, Tryz.ntmps163
  go_wp2_with (first
    | (go_at_call 66; refine LO.out.mono ?_; rintro e w1 ⟨rfl, hb⟩
       rw [← hW0] at hb
       have H1 := Aside0.mk (below_then H0.out H0.out.size hb); have A1 := Aside0.mk ((hb.block _ (blk_lt QA.out)).trans QA.out); have B1 := Aside0.mk ((hb.block _ (blk_lt QB.out)).trans QB.out)
       clear hb)
    | fail)
  refine wp_region_held_drew (S := fun W => W.cell? ⟨w.heap.size, 0, none⟩ = some (.int .i64 11) ∧ W.cell? ⟨w.heap.size, 1, none⟩ = some (.int .i64 52) ∧ W.cell? ⟨w.heap.size + 1, 0, none⟩ = some (.bool neg) ∧ W.cell? ⟨w.heap.size + 1, 1, none⟩ = some (.int .i64 k) ∧ W.cell? ⟨w.heap.size + 1, 2, none⟩ = some (.int .i64 ex) ∧ W.cell? ⟨w.heap.size + 1, 3, none⟩ = some (.int .u64 s)) (by kernel_rfl) (KQ.out _ A1.out B1.out) (fun hHeld => ?_)
  refine tk (i := 0) ?_
  (try simp only [Act.put, g4, g5, g6])
  refine tk (i := 1) ?_
  (try simp only [Act.put, g4, g5, g6])
  refine tk (i := 2) ?_
  (try simp only [Act.put, g4, g5, g6])
  refine tk (i := 3) ?_
  (try simp only [Act.put, g4, g5, g6])
  refine tk (i := 4) ?_
  (try simp only [Act.put, g4, g5, g6])
  refine tk (i := 5) ?_
  (try simp only [Act.put, g4, g5, g6])
  refine tk (i := 6) ?_
  (try simp only [Act.put, g4, g5, g6])
  refine tk (i := 7) ?_
  (try simp only [Act.put, g4, g5, g6])
  refine tk (i := 8) ?_
  (try simp only [Act.put, g4, g5, g6])
  refine tk (i := 9) ?_
  (try simp only [Act.put, g4, g5, g6])
  refine tk (i := 10) ?_
  (try simp only [Act.put, g4, g5, g6])
  refine tk (i := 11) ?_
  (try simp only [Act.put, g4, g5, g6])
  refine tk (i := 12) ?_
  (try simp only [Act.put, g4, g5, g6])
  refine tk (i := 13) ?_
  (try simp only [Act.put, g4, g5, g6])
  refine tk (i := 14) ?_
  (try simp only [Act.put, g4, g5, g6])
  refine tk (i := 15) ?_
  (try simp only [Act.put, g4, g5, g6])
  refine tk (i := 16) ?_
  (try simp only [Act.put, g4, g5, g6])
  refine tk (i := 17) ?_
  (try simp only [Act.put, g4, g5, g6])
  refine wpAnyH_done (by kernel_rfl) ?_ _
  go_wp2
  refine bodyPost_ret (v := .tuple #[.int .u64 0, .bool false]) (by simp [results, Tryz.results163, go_sem]) rfl ?_
  exact ⟨0, false, rfl, ⟨by unfold u64; decide, .inl (by unfold isN; decide)⟩, below_drew H1.out⟩
set_option maxRecDepth 100000 in
set_option maxHeartbeats 4000000 in
theorem finite64_sub (neg : Bool) (k ex s : Int) (w : World) (hx : ex ≤ 971) (hx0 : -9223372036854775808 ≤ ex) (hs : u64 s) (h0 : 0 < s) (h : s < 4503599627370496) (hl : -1074 ≤ ex) : Calls Tryz.prog 163 #[.agg #[.int .i64 11, .int .i64 52], .agg #[.bool neg, .int .i64 k, .int .i64 ex, .int .u64 s]] w fun e w' => ∃ n ok, e = .returned (.tuple #[.int .u64 n, .bool ok]) ∧ Good 64 n ∧ Below w.heap.size w w' := by
  have hs0 := hs.1
  have hs1 := hs.2
  have d0 : ((s : Int) == 0) = false := beq_eq_false_iff_ne.2 (by omega)
  have d1 : decide (s ≥ 9007199254740992) = false := decide_eq_false (by omega)
  have d2 : decide (ex < -1074) = false := decide_eq_false (by omega)
  have w1_ : IntKind.u64.wrap 9007199254740992 = 9007199254740992 := by decide
  have w2_ : IntKind.u64.wrap 4503599627370496 = 4503599627370496 := by decide
  have d3 : decide (s < 4503599627370496) = true := decide_eq_true h
  have JN0 := Aside0.mk (fun W => join64 neg 0 s W (by decide) (by decide) hs0 h)
  have q0 := heap_alloc_new w (.cells #[.int .i64 11, .int .i64 52] 49)
  have qA := (heap_alloc_old (.cells #[.bool neg, .int .i64 k, .int .i64 ex, .int .u64 s] 46) (blk_lt q0)).trans q0
  have qB := heap_alloc_new (w.alloc (.cells #[.int .i64 11, .int .i64 52] 49)) (.cells #[.bool neg, .int .i64 k, .int .i64 ex, .int .u64 s] 46)
  obtain ⟨W0, hW0⟩ : ∃ W0, W0 = (w.alloc (.cells #[.int .i64 11, .int .i64 52] 49)).alloc (.cells #[.bool neg, .int .i64 k, .int .i64 ex, .int .u64 s] 46) := ⟨_, rfl⟩
  have H0 := Aside0.mk (show Below w.heap.size w W0 by rw [hW0]; exact (below_alloc (Below.refl _ _) _).alloc (by rw [World.size_alloc]; omega) _)
  rw [World.size_alloc] at qB
  rw [← hW0] at qA qB
  have kk0 := (blk_cell qA 0).trans rfl
  have kk1 := (blk_cell qA 1).trans rfl
  have QA := Aside0.mk qA
  have QB := Aside0.mk qB
  have KQ := Aside0.mk (show ∀ W : World, W.heap[w.heap.size]? = some (.cells #[.int .i64 11, .int .i64 52] 49 (0, 0)) → W.heap[w.heap.size + 1]? = some (.cells #[.bool neg, .int .i64 k, .int .i64 ex, .int .u64 s] 46 (0, 0)) → (fun W => W.cell? ⟨w.heap.size, 0, none⟩ = some (.int .i64 11) ∧ W.cell? ⟨w.heap.size, 1, none⟩ = some (.int .i64 52) ∧ W.cell? ⟨w.heap.size + 1, 0, none⟩ = some (.bool neg) ∧ W.cell? ⟨w.heap.size + 1, 1, none⟩ = some (.int .i64 k) ∧ W.cell? ⟨w.heap.size + 1, 2, none⟩ = some (.int .i64 ex) ∧ W.cell? ⟨w.heap.size + 1, 3, none⟩ = some (.int .u64 s)) W from fun W h1 h2 =>
    ⟨(blk_cell h1 0).trans rfl, (blk_cell h1 1).trans rfl, (blk_cell h2 0).trans rfl, (blk_cell h2 1).trans rfl, (blk_cell h2 2).trans rfl, (blk_cell h2 3).trans rfl⟩)
  have LO := Aside0.mk (low64 W0)
  rw [hW0] at LO kk0 kk1
  clear q0 qA qB
  go_enter Tryz.func163, Tryz.ntmps163
  go_wp2_with (first
    | (go_at_call 66; refine LO.out.mono ?_; rintro e w1 ⟨rfl, hb⟩
       rw [← hW0] at hb
       have H1 := Aside0.mk (below_then H0.out H0.out.size hb); have A1 := Aside0.mk ((hb.block _ (blk_lt QA.out)).trans QA.out); have B1 := Aside0.mk ((hb.block _ (blk_lt QB.out)).trans QB.out)
       clear hb)
    | fail)
  refine wp_region_held_drew (S := fun W => W.cell? ⟨w.heap.size, 0, none⟩ = some (.int .i64 11) ∧ W.cell? ⟨w.heap.size, 1, none⟩ = some (.int .i64 52) ∧ W.cell? ⟨w.heap.size + 1, 0, none⟩ = some (.bool neg) ∧ W.cell? ⟨w.heap.size + 1, 1, none⟩ = some (.int .i64 k) ∧ W.cell? ⟨w.heap.size + 1, 2, none⟩ = some (.int .i64 ex) ∧ W.cell? ⟨w.heap.size + 1, 3, none⟩ = some (.int .u64 s)) (by kernel_rfl) (KQ.out _ A1.out B1.out) (fun hHeld => ?_)
  refine tk (i := 0) ?_
  (try simp only [Act.put, g4, g5, g6])
  refine tk (i := 1) ?_
  (try simp only [Act.put, g4, g5, g6])
  refine tk (i := 2) ?_
  (try simp only [Act.put, g4, g5, g6])
  refine tk (i := 3) ?_
  (try simp only [Act.put, g4, g5, g6])
  refine tk (i := 4) ?_
  (try simp only [Act.put, g4, g5, g6])
  refine tk (i := 5) ?_
  (try simp only [Act.put, g4, g5, g6])
  refine tk (i := 6) ?_
  (try simp only [Act.put, g4, g5, g6])
  refine tk (i := 7) ?_
  (try simp only [Act.put, g4, g5, g6])
  refine tk (i := 8) ?_
  (try simp only [Act.put, g4, g5, g6])
  refine tk (i := 9) ?_
  (try simp only [Act.put, g4, g5, g6])
  refine tk (i := 10) ?_
  (try simp only [Act.put, g4, g5, g6])
  refine tk (i := 11) ?_
  (try simp only [Act.put, g4, g5, g6])
  refine tk (i := 12) ?_
  (try simp only [Act.put, g4, g5, g6])
  refine tk (i := 13) ?_
  (try simp only [Act.put, g4, g5, g6])
  refine tk (i := 14) ?_
  (try simp only [Act.put, g4, g5, g6])
  refine tk (i := 15) ?_
  (try simp only [Act.put, g4, g5, g6])
  refine tk (i := 16) ?_
  (try simp only [Act.put, g4, g5, g6])
  refine tk (i := 17) ?_
  (try simp only [Act.put, g4, g5, g6])
  refine wpAnyH_done (by kernel_rfl) ?_ _
  go_wp2
  refine wp_region_held_drew (S := fun W => W.cell? ⟨w.heap.size, 0, none⟩ = some (.int .i64 11) ∧ W.cell? ⟨w.heap.size, 1, none⟩ = some (.int .i64 52) ∧ W.cell? ⟨w.heap.size + 1, 0, none⟩ = some (.bool neg) ∧ W.cell? ⟨w.heap.size + 1, 1, none⟩ = some (.int .i64 k) ∧ W.cell? ⟨w.heap.size + 1, 2, none⟩ = some (.int .i64 ex) ∧ W.cell? ⟨w.heap.size + 1, 3, none⟩ = some (.int .u64 s)) (by kernel_rfl) (KQ.out _ A1.out B1.out) (fun hHeld => ?_)
  refine tk (i := 0) ?_
  (try simp only [Act.put, g4, g5, g6])
  refine tk (i := 1) ?_
  (try simp only [Act.put, g4, g5, g6])
  refine tk (i := 2) ?_
  (try simp only [Act.put, g4, g5, g6])
  refine tk (i := 3) ?_
  (try simp only [Act.put, g4, g5, g6])
  refine tk (i := 4) ?_
  (try simp only [Act.put, g4, g5, g6])
  refine tk (i := 5) ?_
  (try simp only [Act.put, g4, g5, g6])
  refine tk (i := 6) ?_
  (try simp only [Act.put, g4, g5, g6])
  refine wpAnyH_done (by kernel_rfl) ?_ _
  go_wp2
  have JN := Aside0.mk (JN0.out w1.drew.drew.drew)
  refine wp_region_held_drew (S := fun W => W.cell? ⟨w.heap.size, 0, none⟩ = some (.int .i64 11) ∧ W.cell? ⟨w.heap.size, 1, none⟩ = some (.int .i64 52) ∧ W.cell? ⟨w.heap.size + 1, 0, none⟩ = some (.bool neg) ∧ W.cell? ⟨w.heap.size + 1, 1, none⟩ = some (.int .i64 k) ∧ W.cell? ⟨w.heap.size + 1, 2, none⟩ = some (.int .i64 ex) ∧ W.cell? ⟨w.heap.size + 1, 3, none⟩ = some (.int .u64 s)) (by kernel_rfl) (KQ.out _ A1.out B1.out) (fun hHeld => ?_)
  refine tk (i := 0) ?_
  (try simp only [Act.put, g4, g5, g6])
  refine tk (i := 1) ?_
  (try simp only [Act.put, g4, g5, g6])
  refine tk (i := 2) ?_
  (try simp only [Act.put, g4, g5, g6])
  refine tk (i := 3) ?_
  (try simp only [Act.put, g4, g5, g6])
  refine tk (i := 4) ?_
  (try simp only [Act.put, g4, g5, g6])
  refine tk (i := 6) ?_
  (try simp only [Act.put, g4, g5, g6])
  refine tk (i := 7) ?_
  (try simp only [Act.put, g4, g5, g6])
  refine tk (i := 8) ?_
  (try simp only [Act.put, g4, g5, g6])
  refine tk (i := 9) ?_
  (try simp only [Act.put, g4, g5, g6])
  refine wpAnyH_ready (rs := [5]) (by kernel_rfl) (by simp) ?_
  refine AllReadyH.cons (o := ?o5) ?ho5_14 (fun K hK => ?_) AllReadyH.nil
  case ho5_14 => simp only [g1, g2, g3]; rfl
  go_simp
  refine JN.out.mono ?_
  rintro e w2 ⟨n, rfl, hn, hb⟩
  have H2 := Aside0.mk (below_then (below_drew (below_drew (below_drew H1.out))) (below_drew (below_drew (below_drew H1.out))).size hb)
  have A2 := Aside0.mk ((hb.block _ (blk_lt A1.out)).trans A1.out)
  have B2 := Aside0.mk ((hb.block _ (blk_lt B1.out)).trans B1.out)
  have HN := Aside0.mk hn
  clear hn hb
  refine hK.out _ _ (KQ.out _ A2.out B2.out) (fun hHeld2 => ?_)
  clear hK K hHeld
  have hHeld := hHeld2
  clear hHeld2
  (try simp only [Act.put, g4, g5, g6])
  refine tk (i := 10) ?_
  (try simp only [Act.put, g4, g5, g6])
  refine tk (i := 11) ?_
  (try simp only [Act.put, g4, g5, g6])
  refine wpAnyH_done (by kernel_rfl) ?_ _
  go_wp2
  refine bodyPost_ret (v := .tuple #[.int .u64 n, .bool (ex == -1074)]) (by simp [results, Tryz.results163, go_sem]) rfl ?_
  exact ⟨n, _, rfl, HN.out, H2.out⟩
set_option maxRecDepth 100000 in
set_option maxHeartbeats 4000000 in
theorem finite64_norm (neg : Bool) (k ex s : Int) (w : World) (hx : ex ≤ 971) (hx0 : -9223372036854775808 ≤ ex) (hs : u64 s) (h0 : 4503599627370496 ≤ s) (h : s < 9007199254740992) (hl : -1074 ≤ ex) : Calls Tryz.prog 163 #[.agg #[.int .i64 11, .int .i64 52], .agg #[.bool neg, .int .i64 k, .int .i64 ex, .int .u64 s]] w fun e w' => ∃ n ok, e = .returned (.tuple #[.int .u64 n, .bool ok]) ∧ Good 64 n ∧ Below w.heap.size w w' := by
  have hs0 := hs.1
  have hs1 := hs.2
  have d0 : ((s : Int) == 0) = false := beq_eq_false_iff_ne.2 (by omega)
  have d1 : decide (s ≥ 9007199254740992) = false := decide_eq_false (by omega)
  have d2 : decide (ex < -1074) = false := decide_eq_false (by omega)
  have w1_ : IntKind.u64.wrap 9007199254740992 = 9007199254740992 := by decide
  have w2_ : IntKind.u64.wrap 4503599627370496 = 4503599627370496 := by decide
  have d3 : decide (s < 4503599627370496) = false := decide_eq_false (by omega)
  have d4 : decide (ex + 1074 > 2045) = false := decide_eq_false (by omega)
  have d5 : ¬ (2045 < ex + 1074) := by omega
  have wa : IntKind.i64.wrap (ex - -1074) = ex + 1074 := by simp only [IntKind.wrap_i64]; omega
  have wb : IntKind.i64.wrap (ex + 1074) = ex + 1074 := by simp only [IntKind.wrap_i64]; omega
  have wc : IntKind.u64.wrap (ex + 1074) = ex + 1074 := by simp only [IntKind.wrap_u64]; omega
  have wd : IntKind.u64.wrap (ex + 1074 + 1) = ex + 1074 + 1 := by simp only [IntKind.wrap_u64]; omega
  have we : IntKind.u64.wrap (4503599627370496 - 1) = 4503599627370495 := by decide
  have wf : IntKind.u64.wrap 4503599627370495 = 4503599627370495 := by decide
  have wg : IntKind.i64.wrap 2047 = 2047 := by decide
  have wh : IntKind.i64.wrap (2047 - 2) = 2045 := by decide
  have wi : IntKind.i64.wrap 2045 = 2045 := by decide
  have ba : bits .and .u64 s 4503599627370495 = s % 4503599627370496 := bits_mask .u64 64 (by decide) (fun n h0 h1 => by simp only [IntKind.wrap_u64]; omega) 52 (by decide) _ hs0 (by omega)
  have JN0 := Aside0.mk (fun W => join64 neg (ex + 1074 + 1) (s % 4503599627370496) W (by omega) (by omega) (by omega) (by omega))
  have q0 := heap_alloc_new w (.cells #[.int .i64 11, .int .i64 52] 49)
  have qA := (heap_alloc_old (.cells #[.bool neg, .int .i64 k, .int .i64 ex, .int .u64 s] 46) (blk_lt q0)).trans q0
  have qB := heap_alloc_new (w.alloc (.cells #[.int .i64 11, .int .i64 52] 49)) (.cells #[.bool neg, .int .i64 k, .int .i64 ex, .int .u64 s] 46)
  obtain ⟨W0, hW0⟩ : ∃ W0, W0 = (w.alloc (.cells #[.int .i64 11, .int .i64 52] 49)).alloc (.cells #[.bool neg, .int .i64 k, .int .i64 ex, .int .u64 s] 46) := ⟨_, rfl⟩
  have H0 := Aside0.mk (show Below w.heap.size w W0 by rw [hW0]; exact (below_alloc (Below.refl _ _) _).alloc (by rw [World.size_alloc]; omega) _)
  rw [World.size_alloc] at qB
  rw [← hW0] at qA qB
  have kk0 := (blk_cell qA 0).trans rfl
  have kk1 := (blk_cell qA 1).trans rfl
  have QA := Aside0.mk qA
  have QB := Aside0.mk qB
  have KQ := Aside0.mk (show ∀ W : World, W.heap[w.heap.size]? = some (.cells #[.int .i64 11, .int .i64 52] 49 (0, 0)) → W.heap[w.heap.size + 1]? = some (.cells #[.bool neg, .int .i64 k, .int .i64 ex, .int .u64 s] 46 (0, 0)) → (fun W => W.cell? ⟨w.heap.size, 0, none⟩ = some (.int .i64 11) ∧ W.cell? ⟨w.heap.size, 1, none⟩ = some (.int .i64 52) ∧ W.cell? ⟨w.heap.size + 1, 0, none⟩ = some (.bool neg) ∧ W.cell? ⟨w.heap.size + 1, 1, none⟩ = some (.int .i64 k) ∧ W.cell? ⟨w.heap.size + 1, 2, none⟩ = some (.int .i64 ex) ∧ W.cell? ⟨w.heap.size + 1, 3, none⟩ = some (.int .u64 s)) W from fun W h1 h2 =>
    ⟨(blk_cell h1 0).trans rfl, (blk_cell h1 1).trans rfl, (blk_cell h2 0).trans rfl, (blk_cell h2 1).trans rfl, (blk_cell h2 2).trans rfl, (blk_cell h2 3).trans rfl⟩)
  have LO := Aside0.mk (low64 W0)
  rw [hW0] at LO kk0 kk1
  clear q0 qA qB
  go_enter Tryz.func163, Tryz.ntmps163
  go_wp2_with (first
    | (go_at_call 66; refine LO.out.mono ?_; rintro e w1 ⟨rfl, hb⟩
       rw [← hW0] at hb
       have H1 := Aside0.mk (below_then H0.out H0.out.size hb); have A1 := Aside0.mk ((hb.block _ (blk_lt QA.out)).trans QA.out); have B1 := Aside0.mk ((hb.block _ (blk_lt QB.out)).trans QB.out)
       clear hb)
    | fail)
  refine wp_region_held_drew (S := fun W => W.cell? ⟨w.heap.size, 0, none⟩ = some (.int .i64 11) ∧ W.cell? ⟨w.heap.size, 1, none⟩ = some (.int .i64 52) ∧ W.cell? ⟨w.heap.size + 1, 0, none⟩ = some (.bool neg) ∧ W.cell? ⟨w.heap.size + 1, 1, none⟩ = some (.int .i64 k) ∧ W.cell? ⟨w.heap.size + 1, 2, none⟩ = some (.int .i64 ex) ∧ W.cell? ⟨w.heap.size + 1, 3, none⟩ = some (.int .u64 s)) (by kernel_rfl) (KQ.out _ A1.out B1.out) (fun hHeld => ?_)
  refine tk (i := 0) ?_
  (try simp only [Act.put, g4, g5, g6])
  refine tk (i := 1) ?_
  (try simp only [Act.put, g4, g5, g6])
  refine tk (i := 2) ?_
  (try simp only [Act.put, g4, g5, g6])
  refine tk (i := 3) ?_
  (try simp only [Act.put, g4, g5, g6])
  refine tk (i := 4) ?_
  (try simp only [Act.put, g4, g5, g6])
  refine tk (i := 5) ?_
  (try simp only [Act.put, g4, g5, g6])
  refine tk (i := 6) ?_
  (try simp only [Act.put, g4, g5, g6])
  refine tk (i := 7) ?_
  (try simp only [Act.put, g4, g5, g6])
  refine tk (i := 8) ?_
  (try simp only [Act.put, g4, g5, g6])
  refine tk (i := 9) ?_
  (try simp only [Act.put, g4, g5, g6])
  refine tk (i := 10) ?_
  (try simp only [Act.put, g4, g5, g6])
  refine tk (i := 11) ?_
  (try simp only [Act.put, g4, g5, g6])
  refine tk (i := 12) ?_
  (try simp only [Act.put, g4, g5, g6])
  refine tk (i := 13) ?_
  (try simp only [Act.put, g4, g5, g6])
  refine tk (i := 14) ?_
  (try simp only [Act.put, g4, g5, g6])
  refine tk (i := 15) ?_
  (try simp only [Act.put, g4, g5, g6])
  refine tk (i := 16) ?_
  (try simp only [Act.put, g4, g5, g6])
  refine tk (i := 17) ?_
  (try simp only [Act.put, g4, g5, g6])
  refine wpAnyH_done (by kernel_rfl) ?_ _
  go_wp2
  refine wp_region_held_drew (S := fun W => W.cell? ⟨w.heap.size, 0, none⟩ = some (.int .i64 11) ∧ W.cell? ⟨w.heap.size, 1, none⟩ = some (.int .i64 52) ∧ W.cell? ⟨w.heap.size + 1, 0, none⟩ = some (.bool neg) ∧ W.cell? ⟨w.heap.size + 1, 1, none⟩ = some (.int .i64 k) ∧ W.cell? ⟨w.heap.size + 1, 2, none⟩ = some (.int .i64 ex) ∧ W.cell? ⟨w.heap.size + 1, 3, none⟩ = some (.int .u64 s)) (by kernel_rfl) (KQ.out _ A1.out B1.out) (fun hHeld => ?_)
  refine tk (i := 0) ?_
  (try simp only [Act.put, g4, g5, g6])
  refine tk (i := 1) ?_
  (try simp only [Act.put, g4, g5, g6])
  refine tk (i := 2) ?_
  (try simp only [Act.put, g4, g5, g6])
  refine tk (i := 3) ?_
  (try simp only [Act.put, g4, g5, g6])
  refine tk (i := 4) ?_
  (try simp only [Act.put, g4, g5, g6])
  refine tk (i := 5) ?_
  (try simp only [Act.put, g4, g5, g6])
  refine tk (i := 6) ?_
  (try simp only [Act.put, g4, g5, g6])
  refine wpAnyH_done (by kernel_rfl) ?_ _
  go_wp2
  refine wp_region_held_drew (S := fun W => W.cell? ⟨w.heap.size, 0, none⟩ = some (.int .i64 11) ∧ W.cell? ⟨w.heap.size, 1, none⟩ = some (.int .i64 52) ∧ W.cell? ⟨w.heap.size + 1, 0, none⟩ = some (.bool neg) ∧ W.cell? ⟨w.heap.size + 1, 1, none⟩ = some (.int .i64 k) ∧ W.cell? ⟨w.heap.size + 1, 2, none⟩ = some (.int .i64 ex) ∧ W.cell? ⟨w.heap.size + 1, 3, none⟩ = some (.int .u64 s)) (by kernel_rfl) (KQ.out _ A1.out B1.out) (fun hHeld => ?_)
  refine tk (i := 0) ?_
  (try simp only [Act.put, g4, g5, g6])
  refine tk (i := 1) ?_
  (try simp only [Act.put, g4, g5, g6])
  refine tk (i := 2) ?_
  (try simp only [Act.put, g4, g5, g6])
  refine tk (i := 3) ?_
  (try simp only [Act.put, g4, g5, g6])
  refine tk (i := 4) ?_
  (try simp only [Act.put, g4, g5, g6])
  refine wpAnyH_ready (rs := [5]) (by kernel_rfl) (by simp) ?_
  refine AllReadyH.cons (o := ?o5) ?ho5_15 (fun K hK => ?_) AllReadyH.nil
  case ho5_15 => simp only [g1, g2, g3]; rfl
  go_simp
  refine (ones64 _).mono ?_
  rintro e w2 ⟨rfl, hb⟩
  have H2 := Aside0.mk (below_then (below_drew (below_drew (below_drew H1.out))) (below_drew (below_drew (below_drew H1.out))).size hb)
  have A2 := Aside0.mk ((hb.block _ (blk_lt A1.out)).trans A1.out)
  have B2 := Aside0.mk ((hb.block _ (blk_lt B1.out)).trans B1.out)
  clear hb
  refine hK.out _ _ (KQ.out _ A2.out B2.out) (fun hHeld2 => ?_)
  clear hK K hHeld
  have hHeld := hHeld2
  clear hHeld2
  (try simp only [Act.put, g4, g5, g6])
  refine tk (i := 6) ?_
  (try simp only [Act.put, g4, g5, g6])
  refine tk (i := 7) ?_
  (try simp only [Act.put, g4, g5, g6])
  refine tk (i := 8) ?_
  (try simp only [Act.put, g4, g5, g6])
  refine tk (i := 9) ?_
  (try simp only [Act.put, g4, g5, g6])
  refine wpAnyH_done (by kernel_rfl) ?_ _
  go_wp2
  have JN := Aside0.mk (JN0.out w2.drew)
  refine wp_region_held_drew (S := fun W => W.cell? ⟨w.heap.size, 0, none⟩ = some (.int .i64 11) ∧ W.cell? ⟨w.heap.size, 1, none⟩ = some (.int .i64 52) ∧ W.cell? ⟨w.heap.size + 1, 0, none⟩ = some (.bool neg) ∧ W.cell? ⟨w.heap.size + 1, 1, none⟩ = some (.int .i64 k) ∧ W.cell? ⟨w.heap.size + 1, 2, none⟩ = some (.int .i64 ex) ∧ W.cell? ⟨w.heap.size + 1, 3, none⟩ = some (.int .u64 s)) (by kernel_rfl) (KQ.out _ A2.out B2.out) (fun hHeld => ?_)
  refine tk (i := 0) ?_
  (try simp only [Act.put, g4, g5, g6])
  refine tk (i := 1) ?_
  (try simp only [Act.put, g4, g5, g6])
  refine tk (i := 2) ?_
  (try simp only [Act.put, g4, g5, g6])
  refine tk (i := 3) ?_
  (try simp only [Act.put, g4, g5, g6])
  refine tk (i := 4) ?_
  (try simp only [Act.put, g4, g5, g6])
  refine tk (i := 5) ?_
  (try simp only [Act.put, g4, g5, g6])
  refine tk (i := 6) ?_
  (try simp only [Act.put, g4, g5, g6])
  refine tk (i := 7) ?_
  (try simp only [Act.put, g4, g5, g6])
  refine tk (i := 8) ?_
  (try simp only [Act.put, g4, g5, g6])
  refine tk (i := 9) ?_
  (try simp only [Act.put, g4, g5, g6])
  refine tk (i := 10) ?_
  (try simp only [Act.put, g4, g5, g6])
  refine tk (i := 11) ?_
  (try simp only [Act.put, g4, g5, g6])
  refine tk (i := 12) ?_
  (try simp only [Act.put, g4, g5, g6])
  refine tk (i := 13) ?_
  (try simp only [Act.put, g4, g5, g6])
  refine tk (i := 14) ?_
  (try simp only [Act.put, g4, g5, g6])
  refine tk (i := 15) ?_
  (try simp only [Act.put, g4, g5, g6])
  refine wpAnyH_ready (rs := [16]) (by kernel_rfl) (by simp) ?_
  refine AllReadyH.cons (o := ?o16) ?ho16_16 (fun K hK => ?_) AllReadyH.nil
  case ho16_16 => simp only [g1, g2, g3]; rfl
  go_simp
  refine JN.out.mono ?_
  rintro e w3 ⟨n, rfl, hn, hb⟩
  have H3 := Aside0.mk (below_then (below_drew H2.out) (below_drew H2.out).size hb)
  have A3 := Aside0.mk ((hb.block _ (blk_lt A2.out)).trans A2.out)
  have B3 := Aside0.mk ((hb.block _ (blk_lt B2.out)).trans B2.out)
  have HN := Aside0.mk hn
  clear hn hb
  refine hK.out _ _ (KQ.out _ A3.out B3.out) (fun hHeld2 => ?_)
  clear hK K hHeld
  have hHeld := hHeld2
  clear hHeld2
  (try simp only [Act.put, g4, g5, g6])
  refine tk (i := 17) ?_
  (try simp only [Act.put, g4, g5, g6])
  refine tk (i := 18) ?_
  (try simp only [Act.put, g4, g5, g6])
  refine wpAnyH_done (by kernel_rfl) ?_ _
  go_wp2
  refine bodyPost_ret (v := .tuple #[.int .u64 n, .bool true]) (by simp [results, Tryz.results163, go_sem]) rfl ?_
  exact ⟨n, _, rfl, HN.out, H3.out⟩
/-- A finite float of its parts is good. -/
theorem finite64 (neg : Bool) (k ex s : Int) (w : World) (hx : ex ≤ 971) (hx0 : -9223372036854775808 ≤ ex) (hs : u64 s) : Calls Tryz.prog 163 #[.agg #[.int .i64 11, .int .i64 52], .agg #[.bool neg, .int .i64 k, .int .i64 ex, .int .u64 s]] w fun e w' => ∃ n ok, e = .returned (.tuple #[.int .u64 n, .bool ok]) ∧ Good 64 n ∧ Below w.heap.size w w' := by
  by_cases c0 : s = 0
  · exact finite64_zero neg k ex s w hx hx0 hs c0
  have c0' : 0 < s := by have := hs.1; omega
  by_cases c1 : 9007199254740992 ≤ s
  · exact finite64_big neg k ex s w hx hx0 hs c1
  by_cases c2 : ex < -1074
  · exact finite64_low neg k ex s w hx hx0 hs c0' (by omega) c2
  by_cases c3 : s < 4503599627370496
  · exact finite64_sub neg k ex s w hx hx0 hs c0' c3 (by omega)
  · exact finite64_norm neg k ex s w hx hx0 hs (by omega) (by omega) (by omega)
set_option maxRecDepth 100000 in
set_option maxHeartbeats 4000000 in
theorem Close64 (neg : Bool) (ex s : Int) (w : World) (hx : ex ≤ 971) (hx0 : -9223372036854775808 ≤ ex) (hs : u64 s) : Calls Tryz.prog 156 #[.int .i64 64, .agg #[.bool neg, .int .i64 1, .int .i64 ex, .int .u64 s]] w fun e w' => ∃ n er, e = .returned (.tuple #[.int .u64 n, .int .i64 er]) ∧ Good 64 n ∧ Below w.heap.size w w' := by
  have q0 := heap_alloc_new w (.cells #[.bool neg, .int .i64 1, .int .i64 ex, .int .u64 s] 46)
  have QA := Aside0.mk q0
  have H0 := Aside0.mk (below_alloc (Below.refl w.heap.size w) (.cells #[.bool neg, .int .i64 1, .int .i64 ex, .int .u64 s] 46))
  have FC := Aside0.mk (fun W => finite64 neg 1 ex s W hx hx0 hs)
  clear q0 hx hx0 hs
  go_enter Tryz.func156, Tryz.ntmps156
  go_wp2_with (first
    | (go_at_call 24; refine (of64 _).mono ?_; rintro e w1 ⟨rfl, hb⟩
       have q1 := (hb.block _ (blk_lt QA.out)).trans QA.out
       have q2 := (heap_alloc_old (.cells #[.int .i64 11, .int .i64 52] 49) (blk_lt q1)).trans q1
       have y0 := (blk_cell q2 0).trans rfl
       have y1 := (blk_cell q2 1).trans rfl
       have y2 := (blk_cell q2 2).trans rfl
       have y3 := (blk_cell q2 3).trans rfl
       have h1 := below_then H0.out H0.out.size hb
       have H1 := Aside0.mk (h1.alloc h1.size (.cells #[.int .i64 11, .int .i64 52] 49))
       clear hb q1 q2 h1)
    | fail)
  refine (FC.out _).mono ?_
  rintro e w2 ⟨n, ok, rfl, hn, hb⟩
  have H2 := Aside0.mk (below_then H1.out H1.out.size hb)
  have HN := Aside0.mk hn
  clear hn hb y0 y1 y2 y3
  cases ok
  · go_wp2
    refine bodyPost_ret (v := .tuple #[.int .u64 0, .int .i64 2]) (by simp [results, Tryz.results156, go_sem]) rfl ?_
    exact ⟨0, 2, rfl, ⟨by unfold u64; decide, .inl (by unfold isN; decide)⟩, H2.out⟩
  · go_wp2
    refine bodyPost_ret (v := .tuple #[.int .u64 n, .int .i64 0]) (by simp [results, Tryz.results156, go_sem]) rfl ?_
    exact ⟨n, 0, rfl, HN.out, H2.out⟩
end Go.Proofs.YticonaahlplbjaaGreatDoor.Tn
