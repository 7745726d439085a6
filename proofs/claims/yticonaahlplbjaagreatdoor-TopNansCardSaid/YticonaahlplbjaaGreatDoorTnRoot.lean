/- wide.Root: some number. -/
import Derived.Test.YticonaahlplbjaaGreatDoorTnFin
namespace Go.Proofs.YticonaahlplbjaaGreatDoor.Tn
open Go.RowKit Go.Proofs.YticonaahlplbjaaGreatDoor.PTopNans Go.Proofs.YticonaahlplbjaaGreatDoorW.PrintWords Go.Proofs.YticonaahlplbjaaGreatDoorW.PrintLast Go.Proofs.YticonaahlplbjaaGreatDoorW.PrintMore
set_option linter.unusedVariables false
set_option linter.unusedSimpArgs false
set_option maxRecDepth 100000 in
set_option maxHeartbeats 4000000 in
theorem Root_calls (h l : Int) (w : World) : Calls Tryz.prog 126 #[.agg #[.int .u64 h, .int .u64 l]] w fun e w' => ∃ r b, e = .returned (.tuple #[.int .u64 r, .bool b]) ∧ u64 r ∧ Below w.heap.size w w' := by
  have q0 := heap_alloc_new w (.cells #[.int .u64 h, .int .u64 l] 98)
  have Q0 := Aside0.mk q0
  have HB := Aside0.mk (below_alloc (Below.refl w.heap.size w) (.cells #[.int .u64 h, .int .u64 l] 98))
  have NE := Aside0.mk ne98
  clear q0
  go_enter Tryz.func126, Tryz.ntmps126
  go_wp2_with (fail)
  go_loopg [2, 4] 64 (fun d v2 v4 w2 => ∃ r b : Int, v2 = .int .u64 r ∧ v4 = .int .u64 b ∧ Aside0 (Tn.u64 r ∧ 0 ≤ b ∧ b < 2 ^ d) ∧ Aside0 (w2.heap[w.heap.size]? = some (.cells #[.int .u64 h, .int .u64 l] 98 (0, 0))) ∧ Aside0 (Below w.heap.size w w2))
  case atStart => exact ⟨_, _, rfl, rfl, ⟨by unfold Tn.u64; decide, by decide, by decide⟩, Q0, HB⟩
  case round =>
    clear Q0 HB
    obtain ⟨r, b, rfl, rfl, HD, Q0, HB⟩ := hrel
    have c0 : wr.cell? ⟨w.heap.size, 0, none⟩ = some (.int .u64 h) := (blk_cell Q0.out 0).trans rfl
    have c1 : wr.cell? ⟨w.heap.size, 1, none⟩ = some (.int .u64 l) := (blk_cell Q0.out 1).trans rfl
    by_cases hb : 0 < b
    · have d0 : decide (0 < b) = true := decide_eq_true hb
      obtain ⟨d, rfl⟩ : ∃ d, gk = d + 1 := by
        cases gk with
        | zero => exact absurd HD.out.2.2 (by simp only [Int.pow_zero]; omega)
        | succ d => exact ⟨d, rfl⟩
      have HD2 := Aside0.mk (show 0 ≤ b / 2 ∧ b / 2 < 2 ^ d by
        have e := HD.out.2.2
        rw [Int.pow_succ] at e
        obtain ⟨P, hP⟩ : ∃ P : Int, P = 2 ^ d := ⟨_, rfl⟩
        rw [← hP] at e ⊢
        omega)
      obtain ⟨x, hx⟩ : ∃ x, bits .or .u64 r b = x := ⟨_, rfl⟩
      have UX := Aside0.mk (show Tn.u64 x by rw [← hx]; exact u64_bits _ _ _)
      clear hb
      go_wp2
      go_region_held (fun W => W.cell? ⟨w.heap.size, 0, none⟩ = some (.int .u64 h) ∧ W.cell? ⟨w.heap.size, 1, none⟩ = some (.int .u64 l)) (go_keep) (first
        | (go_at_call 129; (with_reducible refine (Mul_calls x x _).mono ?_)
           rintro e w1 ⟨mh, ml, rfl, v1, v2, hb⟩
           have Q1 := Aside0.mk ((hb.block _ (blk_lt Q0.out)).trans Q0.out)
           have HB1 := Aside0.mk (below_then (below_drew HB.out) (below_drew HB.out).size hb)
           clear c0 c1 v1 v2
           have c0 : w1.cell? ⟨w.heap.size, 0, none⟩ = some (.int .u64 h) := (blk_cell Q1.out 0).trans rfl
           have c1 : w1.cell? ⟨w.heap.size, 1, none⟩ = some (.int .u64 l) := (blk_cell Q1.out 1).trans rfl
           clear hb)
        | (go_at_call 144; (with_reducible refine (Cmp_calls mh ml h l _).mono ?_)
           rintro e w2 ⟨rr, rfl, hb⟩
           have Q2 := Aside0.mk ((hb.block _ (blk_lt Q1.out)).trans Q1.out)
           have HB2 := Aside0.mk (below_then HB1.out HB1.out.size hb)
           clear c0 c1
           have c0 : w2.cell? ⟨w.heap.size, 0, none⟩ = some (.int .u64 h) := (blk_cell Q2.out 0).trans rfl
           have c1 : w2.cell? ⟨w.heap.size, 1, none⟩ = some (.int .u64 l) := (blk_cell Q2.out 1).trans rfl
           clear hb)
        | fail)
      all_goals
        clear hx
        go_wp2
      all_goals
        go_roundg d
        case measure => omega
        case rel => exact ⟨_, _, rfl, rfl, ⟨by first | exact UX.out | exact HD.out.1, HD2.out.1, HD2.out.2⟩, Q2, HB2⟩
    · have d0 : decide (0 < b) = false := decide_eq_false hb
      clear hb
      go_wp2
      go_region_held (fun W => W.cell? ⟨w.heap.size, 0, none⟩ = some (.int .u64 h) ∧ W.cell? ⟨w.heap.size, 1, none⟩ = some (.int .u64 l)) (go_keep) (first
        | (go_at_call 129; (with_reducible refine (Mul_calls r r _).mono ?_)
           rintro e w1 ⟨mh, ml, rfl, v1, v2, hb⟩
           have Q1 := Aside0.mk ((hb.block _ (blk_lt Q0.out)).trans Q0.out)
           have HB1 := Aside0.mk (below_then (below_drew HB.out) (below_drew HB.out).size hb)
           clear c0 c1 v1 v2
           have c0 : w1.cell? ⟨w.heap.size, 0, none⟩ = some (.int .u64 h) := (blk_cell Q1.out 0).trans rfl
           have c1 : w1.cell? ⟨w.heap.size, 1, none⟩ = some (.int .u64 l) := (blk_cell Q1.out 1).trans rfl
           have ne := NE.out
           clear hb)
        | fail)
      clear ne
      go_wp2
      refine bodyPost_ret (v := .tuple #[.int .u64 r, .bool (!mh == h || !ml == l)]) (by simp [results, Tryz.results126, go_sem]) rfl ?_
      exact ⟨r, _, rfl, HD.out.1, HB1.out⟩
end Go.Proofs.YticonaahlplbjaaGreatDoor.Tn
