/- numeric: integer, float, width, first, find, turned, Kind. -/
import Derived.Test.YticonaahlplbjaaGreatDoorTnFl
namespace Go.Proofs.YticonaahlplbjaaGreatDoor.Tn
open Go.RowKit Go.Proofs.YticonaahlplbjaaGreatDoor.PTopNans Go.Proofs.YticonaahlplbjaaGreatDoorW.PrintWords Go.Proofs.YticonaahlplbjaaGreatDoorW.PrintLast Go.Proofs.YticonaahlplbjaaGreatDoorW.PrintMore
set_option linter.unusedVariables false
set_option linter.unusedSimpArgs false
set_option maxRecDepth 100000 in
set_option maxHeartbeats 4000000 in
theorem integer_calls (wd : Int) (w : World) : Calls Tryz.prog 20 #[.int .i64 wd] w fun e w' => (∃ r, e = .returned (.int .u8 r) ∧ (wd = 32 → r = 127) ∧ (wd ≠ 32 → r = 126)) ∧ w' = w := by
  by_cases c : wd = 32
  · have d : (wd == 32) = true := beq_iff_eq.2 c
    have CC := Aside0.mk c
    clear c
    go_enter Tryz.func20, Tryz.ntmps20
    go_wp2
    go_ret
    exact ⟨⟨_, rfl, fun _ => rfl, fun h => absurd CC.out h⟩, rfl⟩
  · have d : (wd == 32) = false := beq_eq_false_iff_ne.2 c
    have CC := Aside0.mk c
    clear c
    go_enter Tryz.func20, Tryz.ntmps20
    go_wp2
    go_ret
    exact ⟨⟨_, rfl, fun h => absurd h CC.out, fun _ => rfl⟩, rfl⟩
set_option maxRecDepth 100000 in
set_option maxHeartbeats 4000000 in
theorem float_calls (wd : Int) (w : World) : Calls Tryz.prog 21 #[.int .i64 wd] w fun e w' => (∃ r, e = .returned (.int .u8 r) ∧ (wd = 32 → r = 125) ∧ (wd ≠ 32 → r = 124)) ∧ w' = w := by
  by_cases c : wd = 32
  · have d : (wd == 32) = true := beq_iff_eq.2 c
    have CC := Aside0.mk c
    clear c
    go_enter Tryz.func21, Tryz.ntmps21
    go_wp2
    go_ret
    exact ⟨⟨_, rfl, fun _ => rfl, fun h => absurd CC.out h⟩, rfl⟩
  · have d : (wd == 32) = false := beq_eq_false_iff_ne.2 c
    have CC := Aside0.mk c
    clear c
    go_enter Tryz.func21, Tryz.ntmps21
    go_wp2
    go_ret
    exact ⟨⟨_, rfl, fun h => absurd h CC.out, fun _ => rfl⟩, rfl⟩
set_option maxRecDepth 100000 in
set_option maxHeartbeats 4000000 in
theorem width_125 (w : World) : Calls Tryz.prog 9 #[.int .u8 125] w fun e w' => e = .returned (.int .i64 32) ∧ w' = w := by
  go_enter Tryz.func9, Tryz.ntmps9
  go_wp2
  go_ret
  exact ⟨rfl, rfl⟩
set_option maxRecDepth 100000 in
set_option maxHeartbeats 4000000 in
theorem width_124 (w : World) : Calls Tryz.prog 9 #[.int .u8 124] w fun e w' => e = .returned (.int .i64 64) ∧ w' = w := by
  go_enter Tryz.func9, Tryz.ntmps9
  go_wp2
  go_ret
  exact ⟨rfl, rfl⟩
/-- What numeric.first answers. -/
def FirstR (op b s g gg n wd : Int) (ok : Bool) : Prop := (b ≤ op ∧ op < b + s ∧ gg = g ∧ n = op - b ∧ wd = 32 ∧ ok = true) ∨ (b + s ≤ op ∧ op < b + 2 * s ∧ gg = g ∧ n = op - b - s ∧ wd = 64 ∧ ok = true) ∨ ((op < b ∨ b + 2 * s ≤ op) ∧ gg = 0 ∧ n = 0 ∧ wd = 0 ∧ ok = false)
set_option maxRecDepth 100000 in
set_option maxHeartbeats 4000000 in
theorem first_calls (op b s g : Int) (w : World) (io : i64r op) (hb : 0 ≤ b ∧ b ≤ 1000) (hs : 0 < s ∧ s ≤ 100) : Calls Tryz.prog 27 #[.int .i64 op, .int .i64 b, .int .i64 s, .int .i64 g] w fun e w' => (∃ gg n wd ok, e = .returned (.tuple #[.agg #[.int .i64 gg, .int .i64 n, .int .i64 wd], .bool ok]) ∧ FirstR op b s g gg n wd ok) ∧ Below w.heap.size w w' := by
  have q0 := heap_alloc_new w (.cells #[.int .i64 0, .int .i64 0, .int .i64 0] 34)
  have h0 := below_alloc (Below.refl w.heap.size w) (.cells #[.int .i64 0, .int .i64 0, .int .i64 0] 34)
  obtain ⟨W0, hW0⟩ : ∃ W, W = w.alloc (.cells #[.int .i64 0, .int .i64 0, .int .i64 0] 34) := ⟨_, rfl⟩
  rw [← hW0] at q0 h0
  have Q0 := Aside0.mk q0
  have HB := Aside0.mk h0
  have hW := Aside0.mk hW0
  have z0 : W0.cell? ⟨w.heap.size, 0, none⟩ = some (.int .i64 0) := (blk_cell q0 0).trans rfl
  have z1 : W0.cell? ⟨w.heap.size, 1, none⟩ = some (.int .i64 0) := (blk_cell q0 1).trans rfl
  have z2 : W0.cell? ⟨w.heap.size, 2, none⟩ = some (.int .i64 0) := (blk_cell q0 2).trans rfl
  have f0 : W0.frozen? ⟨w.heap.size, 0, none⟩ = false := blk_frozen q0 0
  have f1 : W0.frozen? ⟨w.heap.size, 1, none⟩ = false := blk_frozen q0 1
  have f2 : W0.frozen? ⟨w.heap.size, 2, none⟩ = false := blk_frozen q0 2
  clear q0 h0 hW0
  obtain ⟨n, hn⟩ : ∃ n, IntKind.i64.wrap (op - b) = n := ⟨_, rfl⟩
  obtain ⟨m, hm⟩ : ∃ m, IntKind.i64.wrap (2 * s) = m := ⟨_, rfl⟩
  have em : m = 2 * s := by rw [← hm, IntKind.wrap_i64]; omega
  have hn' : wrap64 (op - b) = n := (i64_w _).symm.trans hn
  have hm' : wrap64 (2 * s) = m := (i64_w _).symm.trans hm
  have LO : (b ≤ op ∧ op < b + s) → n = op - b := fun h => by rw [← hn, IntKind.wrap_i64]; unfold i64r at io; omega
  have en : (b ≤ op → op - b < 9223372036854775808 → n = op - b) ∧ (n < 0 ∨ n = op - b ∨ 1000 < n) := by
    have e := hn
    rw [IntKind.wrap_i64] at e
    unfold i64r at io
    omega
  have CC : (b ≤ op ∧ op < b + s ∧ n = op - b ∧ 0 ≤ n ∧ n < s) ∨ (b + s ≤ op ∧ op < b + 2 * s ∧ n = op - b ∧ 0 ≤ n ∧ s ≤ n ∧ n < m) ∨ ((op < b ∨ b + 2 * s ≤ op) ∧ n < 0) ∨ ((op < b ∨ b + 2 * s ≤ op) ∧ 0 ≤ n ∧ s ≤ n ∧ m ≤ n) := by
    have e := hn
    rw [IntKind.wrap_i64] at e
    unfold i64r at io
    omega
  have EM := Aside0.mk em
  clear LO en em
  rcases CC with ⟨c1, c2, c3, c4, c5⟩ | ⟨c1, c2, c3, c4, c5, c6⟩ | ⟨c1, c2⟩ | ⟨c1, c2, c3, c4⟩
  · skip
    have d1 : decide (n ≥ 0) = true := decide_eq_true c4
    have d2 : decide (n < s) = true := decide_eq_true c5
    have RR := Aside0.mk (show FirstR op b s g g n 32 true from .inl ⟨c1, c2, rfl, c3, rfl, rfl⟩)
    clear c1 c2 c3 c4 c5 io hb hs
    go_enter Tryz.func27, Tryz.ntmps27
    go_upto_region 1 with (fail)
    rw [← hW.out]
    go_wp2
    have P := (blk_set (blk_set (blk_set Q0.out 0 (.int .i64 g)) 1 (.int .i64 n)) 2 (.int .i64 32))
    have k0 := (blk_cell P 0).trans rfl
    have k1 := (blk_cell P 1).trans rfl
    have k2 := (blk_cell P 2).trans rfl
    clear P z0 z1 z2 f0 f1 f2
    refine bodyPost_ret (v := .tuple #[.agg #[.int .i64 g, .int .i64 n, .int .i64 32], .bool true]) (by simp [results, Tryz.results27, go_sem, k0, k1, k2]) rfl ?_
    exact ⟨⟨_, _, _, _, rfl, RR.out⟩, (bset (bset (bset HB.out (by omega) 0 (.int .i64 g)) (by omega) 1 (.int .i64 n)) (by omega) 2 (.int .i64 32))⟩
  · skip
    obtain ⟨x, hx⟩ : ∃ x, IntKind.i64.wrap (n - s) = x := ⟨_, rfl⟩
    have ex : x = n - s := by rw [← hx, IntKind.wrap_i64]; unfold i64r at io; have := EM.out; omega
    have hx' : wrap64 (n - s) = x := (i64_w _).symm.trans hx
    have d1 : decide (n ≥ 0) = true := decide_eq_true c4
    have d2 : decide (n < s) = false := decide_eq_false (by omega)
    have d3 : decide (n ≥ s) = true := decide_eq_true c5
    have d4 : decide (n < m) = true := decide_eq_true c6
    have RR := Aside0.mk (show FirstR op b s g g x 64 true from .inr (.inl ⟨c1, c2, rfl, by omega, rfl, rfl⟩))
    clear c1 c2 c3 c4 c5 c6 ex io hb hs
    go_enter Tryz.func27, Tryz.ntmps27
    go_upto_region 1 with (fail)
    rw [← hW.out]
    go_wp2
    have P := (blk_set (blk_set (blk_set Q0.out 0 (.int .i64 g)) 1 (.int .i64 x)) 2 (.int .i64 64))
    have k0 := (blk_cell P 0).trans rfl
    have k1 := (blk_cell P 1).trans rfl
    have k2 := (blk_cell P 2).trans rfl
    clear P z0 z1 z2 f0 f1 f2
    refine bodyPost_ret (v := .tuple #[.agg #[.int .i64 g, .int .i64 x, .int .i64 64], .bool true]) (by simp [results, Tryz.results27, go_sem, k0, k1, k2]) rfl ?_
    exact ⟨⟨_, _, _, _, rfl, RR.out⟩, (bset (bset (bset HB.out (by omega) 0 (.int .i64 g)) (by omega) 1 (.int .i64 x)) (by omega) 2 (.int .i64 64))⟩
  · skip
    have d1 : decide (n ≥ 0) = false := decide_eq_false (by omega)
    have d3 : decide (n ≥ s) = false := decide_eq_false (by omega)
    have RR := Aside0.mk (show FirstR op b s g 0 0 0 false from .inr (.inr ⟨c1, rfl, rfl, rfl, rfl⟩))
    clear c1 c2 io hb hs
    go_enter Tryz.func27, Tryz.ntmps27
    go_upto_region 1 with (fail)
    rw [← hW.out]
    go_wp2
    have P := (blk_set (blk_set (blk_set Q0.out 0 (.int .i64 0)) 1 (.int .i64 0)) 2 (.int .i64 0))
    have k0 := (blk_cell P 0).trans rfl
    have k1 := (blk_cell P 1).trans rfl
    have k2 := (blk_cell P 2).trans rfl
    clear P z0 z1 z2 f0 f1 f2
    refine bodyPost_ret (v := .tuple #[.agg #[.int .i64 0, .int .i64 0, .int .i64 0], .bool false]) (by simp [results, Tryz.results27, go_sem, k0, k1, k2]) rfl ?_
    exact ⟨⟨_, _, _, _, rfl, RR.out⟩, (bset (bset (bset HB.out (by omega) 0 (.int .i64 0)) (by omega) 1 (.int .i64 0)) (by omega) 2 (.int .i64 0))⟩
  · skip
    have d1 : decide (n ≥ 0) = true := decide_eq_true c2
    have d2 : decide (n < s) = false := decide_eq_false (by omega)
    have d3 : decide (n ≥ s) = true := decide_eq_true c3
    have d4 : decide (n < m) = false := decide_eq_false (by omega)
    have RR := Aside0.mk (show FirstR op b s g 0 0 0 false from .inr (.inr ⟨c1, rfl, rfl, rfl, rfl⟩))
    clear c1 c2 c3 c4 io hb hs
    go_enter Tryz.func27, Tryz.ntmps27
    go_upto_region 1 with (fail)
    rw [← hW.out]
    go_wp2
    have P := (blk_set (blk_set (blk_set Q0.out 0 (.int .i64 0)) 1 (.int .i64 0)) 2 (.int .i64 0))
    have k0 := (blk_cell P 0).trans rfl
    have k1 := (blk_cell P 1).trans rfl
    have k2 := (blk_cell P 2).trans rfl
    clear P z0 z1 z2 f0 f1 f2
    refine bodyPost_ret (v := .tuple #[.agg #[.int .i64 0, .int .i64 0, .int .i64 0], .bool false]) (by simp [results, Tryz.results27, go_sem, k0, k1, k2]) rfl ?_
    exact ⟨⟨_, _, _, _, rfl, RR.out⟩, (bset (bset (bset HB.out (by omega) 0 (.int .i64 0)) (by omega) 1 (.int .i64 0)) (by omega) 2 (.int .i64 0))⟩
end Go.Proofs.YticonaahlplbjaaGreatDoor.Tn
