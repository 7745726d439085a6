/- The walks of wide: what they return is of its kind. -/
import Derived.Test.YticonaahlplbjaaGreatDoorTnShape
import Derived.Test.YticonaahlplbjaaGreatDoorTnPrintA
import Derived.Laws.StructEq
import Derived.Test.YticonaahlplbjaaGreatDoorTnLen
namespace Go.Proofs.YticonaahlplbjaaGreatDoor.Tn
open Go.RowKit Go.Proofs.YticonaahlplbjaaGreatDoor.PTopNans Go.Proofs.YticonaahlplbjaaGreatDoorW.PrintWords Go.Proofs.YticonaahlplbjaaGreatDoorW.PrintLast Go.Proofs.YticonaahlplbjaaGreatDoorW.PrintMore
set_option linter.unusedVariables false
set_option linter.unusedSimpArgs false
theorem u64_wrap (x : Int) : u64 (IntKind.u64.wrap x) := by unfold u64; rw [IntKind.wrap_u64]; omega
theorem u64_bits (o : BinOp) (x y : Int) : u64 (bits o .u64 x y) := by unfold bits; exact u64_wrap _
theorem u64_div {x : Int} (h : u64 x) (k : Nat) : u64 (x / (2 : Int) ^ k) := by
  have h2 : (0 : Int) < 2 ^ k := Int.pow_pos (by decide)
  refine ⟨Int.ediv_nonneg h.1 (Int.le_of_lt h2), ?_⟩
  exact Int.lt_of_le_of_lt (Int.ediv_le_self _ h.1) h.2
theorem u64_0 : u64 0 := by unfold u64; omega
theorem ne98 (x y p q : Int) (W : World) : (binOp .neq 98 (.agg #[.int .u64 x, .int .u64 p]) (.agg #[.int .u64 y, .int .u64 q])).run Tryz.prog W = .ok (.bool (!((x == y) && (p == q)))) W := by
  have h : (Op.equalIn 10000 98 (.agg #[.int .u64 x, .int .u64 p]) (.agg #[.int .u64 y, .int .u64 q])).run Tryz.prog W = .ok ((x == y) && (p == q)) W :=
    eqA_of Tryz.underlying98 (by kernel_rfl) (eqf_cons (a := .int .u64 x) (b := .int .u64 y) rfl (by kernel_rfl) (by kernel_rfl) (run_equalIn_int W _ _ .u64 .u64 x y (by kernel_rfl)) (eqf_last (a := .int .u64 p) (b := .int .u64 q) rfl (by kernel_rfl) (by kernel_rfl) (run_equalIn_int W _ _ .u64 .u64 p q (by kernel_rfl))))
  rw [run_neq_struct, h]
  rfl
/-- A wide number comes back. -/
def WideP (w : World) (e : Ending) (w' : World) : Prop := ∃ h l, e = .returned (.agg #[.int .u64 h, .int .u64 l]) ∧ u64 h ∧ u64 l ∧ Below w.heap.size w w'
theorem Left_calls (h l n : Int) (w : World) (hh : u64 h) (hl : u64 l) (n0 : -9223372036854775808 ≤ n) (n1 : n < 9223372036854775808) : Calls Tryz.prog 140 #[.agg #[.int .u64 h, .int .u64 l], .int .i64 n] w (WideP w) := by
  have K : ∃ r1 r2, wide_Left.f h l n = some (r1, r2) ∧ u64 r1 ∧ u64 r2 := by
    unfold wide_Left.f
    by_cases c1 : n ≤ 0
    · rw [if_pos c1]; exact ⟨_, _, rfl, hh, hl⟩
    rw [if_neg c1]
    by_cases c2 : n ≥ 128
    · rw [if_pos c2]; exact ⟨_, _, rfl, u64_0, u64_0⟩
    rw [if_neg c2]
    by_cases c3 : n ≥ 64
    · rw [if_pos c3, if_pos (by unfold wrap64; omega)]; exact ⟨_, _, rfl, u64_wrap _, u64_0⟩
    rw [if_neg c3, if_pos (by omega), if_pos (by unfold wrap64; omega)]
    exact ⟨_, _, rfl, u64_bits _ _ _, u64_wrap _⟩
  obtain ⟨r1, r2, e, h1, h2⟩ := K
  refine (wide_Left.calls h l n r1 r2 w e).mono ?_
  rintro e w' ⟨rfl, hb⟩
  exact ⟨r1, r2, rfl, h1, h2, hb⟩
/-- A wide number comes back, and whether something was lost. -/
def RightP (w : World) (e : Ending) (w' : World) : Prop := ∃ h l lost, e = .returned (.tuple #[.agg #[.int .u64 h, .int .u64 l], .bool lost]) ∧ u64 h ∧ u64 l ∧ Below w.heap.size w w'
set_option maxRecDepth 100000 in
set_option maxHeartbeats 4000000 in
theorem Right_le (h l n : Int) (w : World) (hh : u64 h) (hl : u64 l) (n0 : -9223372036854775808 ≤ n) (n1 : n < 9223372036854775808) (hn : n ≤ 0) : Calls Tryz.prog 136 #[.agg #[.int .u64 h, .int .u64 l], .int .i64 n] w (RightP w) := by
  have d1 : decide (n ≤ 0) = true := decide_eq_true hn
  have q0 := heap_alloc_new w (.cells #[.int .u64 h, .int .u64 l] 98)
  have qA := (heap_alloc_old (.cells #[.int .u64 0, .int .u64 0] 98) (blk_lt q0)).trans q0
  have qR := heap_alloc_new (w.alloc (.cells #[.int .u64 h, .int .u64 l] 98)) (.cells #[.int .u64 0, .int .u64 0] 98)
  obtain ⟨W0, hW0⟩ : ∃ W0, W0 = (w.alloc (.cells #[.int .u64 h, .int .u64 l] 98)).alloc (.cells #[.int .u64 0, .int .u64 0] 98) := ⟨_, rfl⟩
  have HB := Aside0.mk (show Below w.heap.size w W0 by rw [hW0]; exact (below_alloc (Below.refl _ _) _).alloc (by rw [World.size_alloc]; omega) _)
  rw [World.size_alloc] at qR
  rw [← hW0] at qA qR
  have QA := Aside0.mk qA
  have QR := Aside0.mk qR
  have KA := Aside0.mk (show ∀ W : World, W.heap[w.heap.size]? = some (.cells #[.int .u64 h, .int .u64 l] 98 (0, 0)) → (W.cell? ⟨w.heap.size, 0, none⟩ = some (.int .u64 h) ∧ W.cell? ⟨w.heap.size, 1, none⟩ = some (.int .u64 l)) from fun W h1 => ⟨(blk_cell h1 0).trans rfl, (blk_cell h1 1).trans rfl⟩)
  have ne := ne98
  have eg : Tryz.prog.eqGuardType Tryz.prog.depth 98 = false := by kernel_rfl
  have HH := Aside0.mk (And.intro hh hl)
  have NN := Aside0.mk (And.intro n0 n1)
  clear q0 hh hl n0 n1
  have P : ((w.alloc (.cells #[.int .u64 h, .int .u64 l] 98)).alloc (.cells #[.int .u64 h, .int .u64 l] 98)).heap[w.heap.size + 1]? = some (.cells #[.int .u64 h, .int .u64 l] 98 (0, 0)) := by
    have := heap_alloc_new (w.alloc (.cells #[.int .u64 h, .int .u64 l] 98)) (.cells #[.int .u64 h, .int .u64 l] 98)
    rw [World.size_alloc] at this
    exact this
  have k0 := (blk_cell P 0).trans rfl
  have k1 := (blk_cell P 1).trans rfl
  clear qA qR P hW0
  go_enter Tryz.func136, Tryz.ntmps136
  go_wp2
  refine bodyPost_ret (v := .tuple #[.agg #[.int .u64 h, .int .u64 l], .bool false]) (by simp [results, Tryz.results136, go_sem, k0, k1]) rfl ?_
  exact ⟨h, l, _, rfl, HH.out.1, HH.out.2, (below_alloc (Below.refl _ _) _).alloc (by rw [World.size_alloc]; omega) _⟩
set_option maxRecDepth 100000 in
set_option maxHeartbeats 4000000 in
theorem Right_ge (h l n : Int) (w : World) (hh : u64 h) (hl : u64 l) (n0 : -9223372036854775808 ≤ n) (n1 : n < 9223372036854775808) (hn : ¬ n ≤ 0) (hm : 128 ≤ n) : Calls Tryz.prog 136 #[.agg #[.int .u64 h, .int .u64 l], .int .i64 n] w (RightP w) := by
  have d1 : decide (n ≤ 0) = false := decide_eq_false hn
  have d2 : decide (n ≥ 128) = true := decide_eq_true hm
  have q0 := heap_alloc_new w (.cells #[.int .u64 h, .int .u64 l] 98)
  have qA := (heap_alloc_old (.cells #[.int .u64 0, .int .u64 0] 98) (blk_lt q0)).trans q0
  have qR := heap_alloc_new (w.alloc (.cells #[.int .u64 h, .int .u64 l] 98)) (.cells #[.int .u64 0, .int .u64 0] 98)
  obtain ⟨W0, hW0⟩ : ∃ W0, W0 = (w.alloc (.cells #[.int .u64 h, .int .u64 l] 98)).alloc (.cells #[.int .u64 0, .int .u64 0] 98) := ⟨_, rfl⟩
  have HB := Aside0.mk (show Below w.heap.size w W0 by rw [hW0]; exact (below_alloc (Below.refl _ _) _).alloc (by rw [World.size_alloc]; omega) _)
  rw [World.size_alloc] at qR
  rw [← hW0] at qA qR
  have QA := Aside0.mk qA
  have QR := Aside0.mk qR
  have KA := Aside0.mk (show ∀ W : World, W.heap[w.heap.size]? = some (.cells #[.int .u64 h, .int .u64 l] 98 (0, 0)) → (W.cell? ⟨w.heap.size, 0, none⟩ = some (.int .u64 h) ∧ W.cell? ⟨w.heap.size, 1, none⟩ = some (.int .u64 l)) from fun W h1 => ⟨(blk_cell h1 0).trans rfl, (blk_cell h1 1).trans rfl⟩)
  have ne := ne98
  have eg : Tryz.prog.eqGuardType Tryz.prog.depth 98 = false := by kernel_rfl
  have HH := Aside0.mk (And.intro hh hl)
  have NN := Aside0.mk (And.intro n0 n1)
  clear q0 hh hl n0 n1
  have f0 := blk_frozen qR 0
  have f1 := blk_frozen qR 1
  have c0 := (blk_cell qR 0).trans rfl
  have c1 := (blk_cell qR 1).trans rfl
  clear qA qR
  go_enter Tryz.func136, Tryz.ntmps136
  go_wp2
  rw [← hW0]
  clear hW0
  refine wp_region_held_drew (S := fun W => W.cell? ⟨w.heap.size, 0, none⟩ = some (.int .u64 h) ∧ W.cell? ⟨w.heap.size, 1, none⟩ = some (.int .u64 l)) (by kernel_rfl) (KA.out _ QA.out) (fun hHeld => ?_)
  refine tk (i := 0) ?_
  (try simp only [Act.put, g4, g5, g6])
  refine tk (i := 1) ?_
  (try simp only [Act.put, g4, g5, g6])
  refine tk (i := 2) ?_
  (try simp only [Act.put, g4, g5, g6])
  refine tk (i := 3) ?_
  (try simp only [Act.put, g4, g5, g6])
  refine wpAnyH_ready (rs := [4]) (by kernel_rfl) (by simp) ?_
  refine AllReadyH.cons (o := ?o4_1) ?ho4_1 (fun K hK => ?_) AllReadyH.nil
  case ho4_1 => simp only [g1, g2, g3]; rfl
  go_simp
  refine hK.out _ _ (KA.out _ ((Below.heap_setCell _ _ _ _ (by simp)).trans ((Below.heap_setCell _ _ _ _ (by simp)).trans QA.out))) (fun hHeld2 => ?_)
  clear hK K hHeld
  have hHeld := hHeld2
  clear hHeld2
  (try simp only [Act.put, g4, g5, g6])
  refine tk (i := 5) ?_
  (try simp only [Act.put, g4, g5, g6])
  refine wpAnyH_done (by kernel_rfl) ?_ _
  have P := blk_set (blk_set QR.out 0 (.int .u64 0)) 1 (.int .u64 0)
  have k0 := blk_cell P 0
  have k1 := blk_cell P 1
  simp at k0 k1
  go_wp2
  refine bodyPost_ret (v := .tuple #[.agg #[.int .u64 0, .int .u64 0], .bool (!h == 0 || !l == 0)]) (by simp [results, Tryz.results136, go_sem, k0, k1]) rfl ?_
  exact ⟨0, 0, _, rfl, u64_0, u64_0, bset (bset (below_drew HB.out) (by omega) _ _) (by omega) _ _⟩
set_option maxRecDepth 100000 in
set_option maxHeartbeats 4000000 in
theorem Right_mid (h l n : Int) (w : World) (hh : u64 h) (hl : u64 l) (n0 : -9223372036854775808 ≤ n) (n1 : n < 9223372036854775808) (hn : 64 ≤ n) (hm : n < 128) : Calls Tryz.prog 136 #[.agg #[.int .u64 h, .int .u64 l], .int .i64 n] w (RightP w) := by
  have d1 : decide (n ≤ 0) = false := decide_eq_false (by omega)
  have d2 : decide (n ≥ 128) = false := decide_eq_false (by omega)
  have d3 : decide (n ≥ 64) = true := decide_eq_true hn
  have m1 : 0 ≤ n - 64 := by omega
  have wa : IntKind.i64.wrap (n - 64) = n - 64 := by simp only [IntKind.wrap_i64]; omega
  have q0 := heap_alloc_new w (.cells #[.int .u64 h, .int .u64 l] 98)
  have qA := (heap_alloc_old (.cells #[.int .u64 0, .int .u64 0] 98) (blk_lt q0)).trans q0
  have qR := heap_alloc_new (w.alloc (.cells #[.int .u64 h, .int .u64 l] 98)) (.cells #[.int .u64 0, .int .u64 0] 98)
  obtain ⟨W0, hW0⟩ : ∃ W0, W0 = (w.alloc (.cells #[.int .u64 h, .int .u64 l] 98)).alloc (.cells #[.int .u64 0, .int .u64 0] 98) := ⟨_, rfl⟩
  have HB := Aside0.mk (show Below w.heap.size w W0 by rw [hW0]; exact (below_alloc (Below.refl _ _) _).alloc (by rw [World.size_alloc]; omega) _)
  rw [World.size_alloc] at qR
  rw [← hW0] at qA qR
  have QA := Aside0.mk qA
  have QR := Aside0.mk qR
  have KA := Aside0.mk (show ∀ W : World, W.heap[w.heap.size]? = some (.cells #[.int .u64 h, .int .u64 l] 98 (0, 0)) → (W.cell? ⟨w.heap.size, 0, none⟩ = some (.int .u64 h) ∧ W.cell? ⟨w.heap.size, 1, none⟩ = some (.int .u64 l)) from fun W h1 => ⟨(blk_cell h1 0).trans rfl, (blk_cell h1 1).trans rfl⟩)
  have ne := ne98
  have eg : Tryz.prog.eqGuardType Tryz.prog.depth 98 = false := by kernel_rfl
  have HH := Aside0.mk (And.intro hh hl)
  have NN := Aside0.mk (And.intro n0 n1)
  clear q0 hh hl n0 n1
  clear qA qR
  go_enter Tryz.func136, Tryz.ntmps136
  go_wp2
  clear hW0
  obtain ⟨rh, hrh⟩ : ∃ rh : Int, rh = 0 := ⟨_, rfl⟩
  obtain ⟨rl, hrl⟩ : ∃ rl, rl = h / 2 ^ (n - 64).toNat := ⟨_, rfl⟩
  rw [← hrl]
  have RU := Aside0.mk (And.intro (show u64 rh by rw [hrh]; exact u64_0) (show u64 rl by rw [hrl]; exact u64_div HH.out.1 _))
  obtain ⟨W1, hW1⟩ : ∃ W1, W1 = (w.alloc (.cells #[.int .u64 h, .int .u64 l] 98)).alloc (.cells #[.int .u64 rh, .int .u64 rl] 98) := ⟨_, rfl⟩
  have hh2 : (w.alloc (.cells #[.int .u64 h, .int .u64 l] 98)).alloc (.cells #[.int .u64 0, .int .u64 rl] 98) = W1 := by rw [hW1, hrh]
  rw [hh2]
  have A1 := Aside0.mk (show W1.heap[w.heap.size]? = some (.cells #[.int .u64 h, .int .u64 l] 98 (0, 0)) by rw [hW1]; exact (heap_alloc_old _ (blk_lt (heap_alloc_new w _))).trans (heap_alloc_new w _))
  have R1 := Aside0.mk (show W1.heap[w.heap.size + 1]? = some (.cells #[.int .u64 rh, .int .u64 rl] 98 (0, 0)) by
    rw [hW1]
    have := heap_alloc_new (w.alloc (.cells #[.int .u64 h, .int .u64 l] 98)) (.cells #[.int .u64 rh, .int .u64 rl] 98)
    rw [World.size_alloc] at this
    exact this)
  have HS1 := Aside0.mk (show Below w.heap.size w W1 by rw [hW1]; exact (below_alloc (Below.refl _ _) _).alloc (by rw [World.size_alloc]; omega) _)
  clear hW1 hh2 hrh hrl wa
  have KB := Aside0.mk (show ∀ W : World, W.heap[w.heap.size]? = some (.cells #[.int .u64 h, .int .u64 l] 98 (0, 0)) → W.heap[w.heap.size + 1]? = some (.cells #[.int .u64 rh, .int .u64 rl] 98 (0, 0)) → (fun W => W.cell? ⟨w.heap.size, 0, none⟩ = some (.int .u64 h) ∧ W.cell? ⟨w.heap.size, 1, none⟩ = some (.int .u64 l) ∧ W.cell? ⟨w.heap.size + 1, 0, none⟩ = some (.int .u64 rh) ∧ W.cell? ⟨w.heap.size + 1, 1, none⟩ = some (.int .u64 rl)) W from fun W h1 h2 => ⟨(blk_cell h1 0).trans rfl, (blk_cell h1 1).trans rfl, (blk_cell h2 0).trans rfl, (blk_cell h2 1).trans rfl⟩)
  have LC := Aside0.mk (Left_calls rh rl n W1.drew RU.out.1 RU.out.2 NN.out.1 NN.out.2)
  refine wp_region_held_drew (S := fun W => W.cell? ⟨w.heap.size, 0, none⟩ = some (.int .u64 h) ∧ W.cell? ⟨w.heap.size, 1, none⟩ = some (.int .u64 l) ∧ W.cell? ⟨w.heap.size + 1, 0, none⟩ = some (.int .u64 rh) ∧ W.cell? ⟨w.heap.size + 1, 1, none⟩ = some (.int .u64 rl)) (by kernel_rfl) (KB.out _ A1.out R1.out) (fun hHeld => ?_)
  refine tk (i := 0) ?_
  (try simp only [Act.put, g4, g5, g6])
  refine tk (i := 1) ?_
  (try simp only [Act.put, g4, g5, g6])
  refine tk (i := 2) ?_
  (try simp only [Act.put, g4, g5, g6])
  refine tk (i := 4) ?_
  (try simp only [Act.put, g4, g5, g6])
  refine wpAnyH_ready (rs := [3]) (by kernel_rfl) (by simp) ?_
  refine AllReadyH.cons (o := ?o3_2) ?ho3_2 (fun K hK => ?_) AllReadyH.nil
  case ho3_2 => simp only [g1, g2, g3]; rfl
  go_simp
  refine LC.out.mono ?_
  rintro e w2 ⟨r2h, r2l, rfl, _, _, hb⟩
  have H2 := Aside0.mk (below_then (below_drew HS1.out) (below_drew HS1.out).size hb)
  have A2 := Aside0.mk ((hb.block _ (blk_lt A1.out)).trans A1.out)
  have r2 := (hb.block _ (blk_lt R1.out)).trans R1.out
  have R2 := Aside0.mk r2
  have fz0 := blk_frozen r2 0
  have fz1 := blk_frozen r2 1
  have y0 := (blk_cell r2 0).trans rfl
  have y1 := (blk_cell r2 1).trans rfl
  clear hb r2
  refine hK.out _ _ (KB.out _ A2.out R2.out) (fun hHeld2 => ?_)
  clear hK K hHeld
  have hHeld := hHeld2
  clear hHeld2
  (try simp only [Act.put, g4, g5, g6])
  refine tk (i := 5) ?_
  (try simp only [Act.put, g4, g5, g6])
  refine wpAnyH_ready (rs := [6]) (by kernel_rfl) (by simp) ?_
  refine AllReadyH.cons (o := ?o6_2) ?ho6_2 (fun K hK => ?_) AllReadyH.nil
  case ho6_2 => simp only [g1, g2, g3]; rfl
  go_simp
  refine hK.out _ _ (KB.out _ ((Below.heap_setCell _ _ _ _ (by simp)).trans ((Below.heap_setCell _ _ _ _ (by simp)).trans A2.out)) (by have P := blk_set (blk_set R2.out 0 (.int .u64 rh)) 1 (.int .u64 rl); simpa using P)) (fun hHeld2 => ?_)
  clear hK K hHeld
  have hHeld := hHeld2
  clear hHeld2
  (try simp only [Act.put, g4, g5, g6])
  refine tk (i := 7) ?_
  (try simp only [Act.put, g4, g5, g6])
  refine wpAnyH_done (by kernel_rfl) ?_ _
  have P := blk_set (blk_set R2.out 0 (.int .u64 rh)) 1 (.int .u64 rl)
  have k0 := blk_cell P 0
  have k1 := blk_cell P 1
  simp at k0 k1
  go_wp2
  refine bodyPost_ret (v := .tuple #[.agg #[.int .u64 rh, .int .u64 rl], .bool (!r2h == h || !r2l == l)]) (by simp [results, Tryz.results136, go_sem, k0, k1]) rfl ?_
  exact ⟨rh, rl, _, rfl, RU.out.1, RU.out.2, bset (bset H2.out (by omega) _ _) (by omega) _ _⟩
set_option maxRecDepth 100000 in
set_option maxHeartbeats 4000000 in
theorem Right_lo (h l n : Int) (w : World) (hh : u64 h) (hl : u64 l) (n0 : -9223372036854775808 ≤ n) (n1 : n < 9223372036854775808) (hn : 0 < n) (hm : n < 64) : Calls Tryz.prog 136 #[.agg #[.int .u64 h, .int .u64 l], .int .i64 n] w (RightP w) := by
  have d1 : decide (n ≤ 0) = false := decide_eq_false (by omega)
  have d2 : decide (n ≥ 128) = false := decide_eq_false (by omega)
  have d3 : decide (n ≥ 64) = false := decide_eq_false (by omega)
  have m1 : 0 ≤ n := by omega
  have m2 : 0 ≤ 64 - n := by omega
  have wa : IntKind.i64.wrap (64 - n) = 64 - n := by simp only [IntKind.wrap_i64]; omega
  have q0 := heap_alloc_new w (.cells #[.int .u64 h, .int .u64 l] 98)
  have qA := (heap_alloc_old (.cells #[.int .u64 0, .int .u64 0] 98) (blk_lt q0)).trans q0
  have qR := heap_alloc_new (w.alloc (.cells #[.int .u64 h, .int .u64 l] 98)) (.cells #[.int .u64 0, .int .u64 0] 98)
  obtain ⟨W0, hW0⟩ : ∃ W0, W0 = (w.alloc (.cells #[.int .u64 h, .int .u64 l] 98)).alloc (.cells #[.int .u64 0, .int .u64 0] 98) := ⟨_, rfl⟩
  have HB := Aside0.mk (show Below w.heap.size w W0 by rw [hW0]; exact (below_alloc (Below.refl _ _) _).alloc (by rw [World.size_alloc]; omega) _)
  rw [World.size_alloc] at qR
  rw [← hW0] at qA qR
  have QA := Aside0.mk qA
  have QR := Aside0.mk qR
  have KA := Aside0.mk (show ∀ W : World, W.heap[w.heap.size]? = some (.cells #[.int .u64 h, .int .u64 l] 98 (0, 0)) → (W.cell? ⟨w.heap.size, 0, none⟩ = some (.int .u64 h) ∧ W.cell? ⟨w.heap.size, 1, none⟩ = some (.int .u64 l)) from fun W h1 => ⟨(blk_cell h1 0).trans rfl, (blk_cell h1 1).trans rfl⟩)
  have ne := ne98
  have eg : Tryz.prog.eqGuardType Tryz.prog.depth 98 = false := by kernel_rfl
  have HH := Aside0.mk (And.intro hh hl)
  have NN := Aside0.mk (And.intro n0 n1)
  clear q0 hh hl n0 n1
  have f0 := blk_frozen qR 0
  have f1 := blk_frozen qR 1
  have c0 := (blk_cell qR 0).trans rfl
  have c1 := (blk_cell qR 1).trans rfl
  clear qA qR
  go_enter Tryz.func136, Tryz.ntmps136
  go_wp2
  rw [← hW0]
  clear hW0
  refine wp_region_held_drew (S := fun W => W.cell? ⟨w.heap.size, 0, none⟩ = some (.int .u64 h) ∧ W.cell? ⟨w.heap.size, 1, none⟩ = some (.int .u64 l)) (by kernel_rfl) (KA.out _ QA.out) (fun hHeld => ?_)
  refine tk (i := 0) ?_
  (try simp only [Act.put, g4, g5, g6])
  refine tk (i := 1) ?_
  (try simp only [Act.put, g4, g5, g6])
  refine tk (i := 2) ?_
  (try simp only [Act.put, g4, g5, g6])
  refine tk (i := 3) ?_
  (try simp only [Act.put, g4, g5, g6])
  refine tk (i := 4) ?_
  (try simp only [Act.put, g4, g5, g6])
  refine tk (i := 5) ?_
  (try simp only [Act.put, g4, g5, g6])
  refine tk (i := 6) ?_
  (try simp only [Act.put, g4, g5, g6])
  refine tk (i := 7) ?_
  (try simp only [Act.put, g4, g5, g6])
  refine tk (i := 8) ?_
  (try simp only [Act.put, g4, g5, g6])
  refine tk (i := 9) ?_
  (try simp only [Act.put, g4, g5, g6])
  refine tk (i := 10) ?_
  (try simp only [Act.put, g4, g5, g6])
  refine tk (i := 11) ?_
  (try simp only [Act.put, g4, g5, g6])
  refine tk (i := 12) ?_
  (try simp only [Act.put, g4, g5, g6])
  refine tk (i := 13) ?_
  (try simp only [Act.put, g4, g5, g6])
  refine tk (i := 14) ?_
  (try simp only [Act.put, g4, g5, g6])
  refine wpAnyH_ready (rs := [15]) (by kernel_rfl) (by simp) ?_
  refine AllReadyH.cons (o := ?o15_3) ?ho15_3 (fun K hK => ?_) AllReadyH.nil
  case ho15_3 => simp only [g1, g2, g3]; rfl
  go_simp
  refine hK.out _ _ (KA.out _ ((Below.heap_setCell _ _ _ _ (by simp)).trans ((Below.heap_setCell _ _ _ _ (by simp)).trans QA.out))) (fun hHeld2 => ?_)
  clear hK K hHeld
  have hHeld := hHeld2
  clear hHeld2
  (try simp only [Act.put, g4, g5, g6])
  refine wpAnyH_done (by kernel_rfl) ?_ _
  go_wp2
  obtain ⟨rh, hrh⟩ : ∃ rh, rh = h / 2 ^ n.toNat := ⟨_, rfl⟩
  obtain ⟨rl, hrl⟩ : ∃ rl, rl = bits .or .u64 (l / 2 ^ n.toNat) (IntKind.u64.wrap (h * 2 ^ (64 - n).toNat)) := ⟨_, rfl⟩
  rw [← hrh, ← hrl]
  have RU := Aside0.mk (And.intro (show u64 rh by rw [hrh]; exact u64_div HH.out.1 _) (show u64 rl by rw [hrl]; exact u64_bits _ _ _))
  obtain ⟨W1, hW1⟩ : ∃ W1, W1 = (W0.setCell ⟨w.heap.size + 1, 0, none⟩ (.int .u64 rh)).setCell ⟨w.heap.size + 1, 1, none⟩ (.int .u64 rl) := ⟨_, rfl⟩
  have A1 := Aside0.mk (show W1.heap[w.heap.size]? = some (.cells #[.int .u64 h, .int .u64 l] 98 (0, 0)) by rw [hW1]; exact ((Below.heap_setCell _ _ _ _ (by simp)).trans ((Below.heap_setCell _ _ _ _ (by simp)).trans QA.out)))
  have R1 := Aside0.mk (show W1.heap[w.heap.size + 1]? = some (.cells #[.int .u64 rh, .int .u64 rl] 98 (0, 0)) by rw [hW1]; have P := blk_set (blk_set QR.out 0 (.int .u64 rh)) 1 (.int .u64 rl); simpa using P)
  have HS1 := Aside0.mk (show Below w.heap.size w W1 by rw [hW1]; exact bset (bset HB.out (by omega) _ _) (by omega) _ _)
  obtain ⟨W2, hW2⟩ : ∃ W2, W2 = W1.drew := ⟨_, rfl⟩
  have hw2 : ((W0.setCell ⟨w.heap.size + 1, 0, none⟩ (.int .u64 rh)).setCell ⟨w.heap.size + 1, 1, none⟩ (.int .u64 rl)).drew = W2 := by rw [hW2, hW1]
  rw [hw2]
  have A1 := Aside0.mk (show W2.heap[w.heap.size]? = some (.cells #[.int .u64 h, .int .u64 l] 98 (0, 0)) by rw [hW2]; exact A1.out)
  have R1 := Aside0.mk (show W2.heap[w.heap.size + 1]? = some (.cells #[.int .u64 rh, .int .u64 rl] 98 (0, 0)) by rw [hW2]; exact R1.out)
  have HS1 := Aside0.mk (show Below w.heap.size w W2 by rw [hW2]; exact below_drew HS1.out)
  clear hW1 hW2 hw2 hrh hrl wa
  have KB := Aside0.mk (show ∀ W : World, W.heap[w.heap.size]? = some (.cells #[.int .u64 h, .int .u64 l] 98 (0, 0)) → W.heap[w.heap.size + 1]? = some (.cells #[.int .u64 rh, .int .u64 rl] 98 (0, 0)) → (fun W => W.cell? ⟨w.heap.size, 0, none⟩ = some (.int .u64 h) ∧ W.cell? ⟨w.heap.size, 1, none⟩ = some (.int .u64 l) ∧ W.cell? ⟨w.heap.size + 1, 0, none⟩ = some (.int .u64 rh) ∧ W.cell? ⟨w.heap.size + 1, 1, none⟩ = some (.int .u64 rl)) W from fun W h1 h2 => ⟨(blk_cell h1 0).trans rfl, (blk_cell h1 1).trans rfl, (blk_cell h2 0).trans rfl, (blk_cell h2 1).trans rfl⟩)
  have LC := Aside0.mk (Left_calls rh rl n W2.drew RU.out.1 RU.out.2 NN.out.1 NN.out.2)
  clear f0 f1 c0 c1
  refine wp_region_held_drew (S := fun W => W.cell? ⟨w.heap.size, 0, none⟩ = some (.int .u64 h) ∧ W.cell? ⟨w.heap.size, 1, none⟩ = some (.int .u64 l) ∧ W.cell? ⟨w.heap.size + 1, 0, none⟩ = some (.int .u64 rh) ∧ W.cell? ⟨w.heap.size + 1, 1, none⟩ = some (.int .u64 rl)) (by kernel_rfl) (KB.out _ A1.out R1.out) (fun hHeld => ?_)
  refine tk (i := 0) ?_
  (try simp only [Act.put, g4, g5, g6])
  refine tk (i := 1) ?_
  (try simp only [Act.put, g4, g5, g6])
  refine tk (i := 2) ?_
  (try simp only [Act.put, g4, g5, g6])
  refine tk (i := 4) ?_
  (try simp only [Act.put, g4, g5, g6])
  refine wpAnyH_ready (rs := [3]) (by kernel_rfl) (by simp) ?_
  refine AllReadyH.cons (o := ?o3_4) ?ho3_4 (fun K hK => ?_) AllReadyH.nil
  case ho3_4 => simp only [g1, g2, g3]; rfl
  go_simp
  refine LC.out.mono ?_
  rintro e w2 ⟨r2h, r2l, rfl, _, _, hb⟩
  have H2 := Aside0.mk (below_then (below_drew HS1.out) (below_drew HS1.out).size hb)
  have A2 := Aside0.mk ((hb.block _ (blk_lt A1.out)).trans A1.out)
  have r2 := (hb.block _ (blk_lt R1.out)).trans R1.out
  have R2 := Aside0.mk r2
  have fz0 := blk_frozen r2 0
  have fz1 := blk_frozen r2 1
  have y0 := (blk_cell r2 0).trans rfl
  have y1 := (blk_cell r2 1).trans rfl
  clear hb r2
  refine hK.out _ _ (KB.out _ A2.out R2.out) (fun hHeld2 => ?_)
  clear hK K hHeld
  have hHeld := hHeld2
  clear hHeld2
  (try simp only [Act.put, g4, g5, g6])
  refine tk (i := 5) ?_
  (try simp only [Act.put, g4, g5, g6])
  refine wpAnyH_ready (rs := [6]) (by kernel_rfl) (by simp) ?_
  refine AllReadyH.cons (o := ?o6_4) ?ho6_4 (fun K hK => ?_) AllReadyH.nil
  case ho6_4 => simp only [g1, g2, g3]; rfl
  go_simp
  refine hK.out _ _ (KB.out _ ((Below.heap_setCell _ _ _ _ (by simp)).trans ((Below.heap_setCell _ _ _ _ (by simp)).trans A2.out)) (by have P := blk_set (blk_set R2.out 0 (.int .u64 rh)) 1 (.int .u64 rl); simpa using P)) (fun hHeld2 => ?_)
  clear hK K hHeld
  have hHeld := hHeld2
  clear hHeld2
  (try simp only [Act.put, g4, g5, g6])
  refine tk (i := 7) ?_
  (try simp only [Act.put, g4, g5, g6])
  refine wpAnyH_done (by kernel_rfl) ?_ _
  have P := blk_set (blk_set R2.out 0 (.int .u64 rh)) 1 (.int .u64 rl)
  have k0 := blk_cell P 0
  have k1 := blk_cell P 1
  simp at k0 k1
  go_wp2
  refine bodyPost_ret (v := .tuple #[.agg #[.int .u64 rh, .int .u64 rl], .bool (!r2h == h || !r2l == l)]) (by simp [results, Tryz.results136, go_sem, k0, k1]) rfl ?_
  exact ⟨rh, rl, _, rfl, RU.out.1, RU.out.2, bset (bset H2.out (by omega) _ _) (by omega) _ _⟩
theorem Right_calls (h l n : Int) (w : World) (hh : u64 h) (hl : u64 l) (n0 : -9223372036854775808 ≤ n) (n1 : n < 9223372036854775808) : Calls Tryz.prog 136 #[.agg #[.int .u64 h, .int .u64 l], .int .i64 n] w (RightP w) := by
  by_cases c1 : n ≤ 0
  · exact Right_le h l n w hh hl n0 n1 c1
  by_cases c2 : 128 ≤ n
  · exact Right_ge h l n w hh hl n0 n1 c1 c2
  by_cases c3 : 64 ≤ n
  · exact Right_mid h l n w hh hl n0 n1 c3 (by omega)
  · exact Right_lo h l n w hh hl n0 n1 (by omega) (by omega)
end Go.Proofs.YticonaahlplbjaaGreatDoor.Tn
