/- shape.Cut; whole.made and its four uses. -/
import Derived.Test.YticonaahlplbjaaGreatDoorTnMade
import Derived.Test.YticonaahlplbjaaGreatDoorTnCast
namespace Go.Proofs.YticonaahlplbjaaGreatDoor.Tn
open Go.RowKit Go.Proofs.YticonaahlplbjaaGreatDoor.PTopNans Go.Proofs.YticonaahlplbjaaGreatDoorW.PrintWords Go.Proofs.YticonaahlplbjaaGreatDoorW.PrintLast Go.Proofs.YticonaahlplbjaaGreatDoorW.PrintMore
set_option linter.unusedVariables false
set_option linter.unusedSimpArgs false
theorem exact_calls (b h r : Bool) (n : Int) (w : World) : Calls Tryz.prog 122 #[.agg #[.bool b, .int .u64 n, .bool h, .bool r]] w fun e w' => (∃ x, e = .returned (.bool x)) ∧ Below w.heap.size w w' := by
  have K : ∃ x, whole_cut_exact.f b n h r = some x := by
    unfold whole_cut_exact.f
    split <;> exact ⟨_, rfl⟩
  obtain ⟨x, hx⟩ := K
  refine (whole_cut_exact.calls b n h r x w hx).mono ?_
  rintro e w' ⟨rfl, hb⟩
  exact ⟨⟨_, rfl⟩, hb⟩
set_option maxRecDepth 100000 in
set_option maxHeartbeats 4000000 in
theorem made_88 {wd : Int} (C : Fl wd) (a : Int) (w : World) (ua : u64 a) : Calls Tryz.prog 87 #[.int .i64 wd, .int .u64 a, .func (.func 88) #[] #[]] w (Ans w wd (isN wd a)) := by
  have UA := Aside0.mk ua
  have C := Aside0.mk C
  have kd : (wd != 32) = false ∨ ((wd != 32) = true ∧ (wd != 64) = false) := by rcases C.out.wid with h | h <;> simp [h]
  clear ua
  rcases kd with k1 | ⟨k1, k2⟩
  all_goals
    go_enter Tryz.func87, Tryz.ntmps87
    go_upto_region 4 with (first
      | (go_at_call 23; refine (C.out.O a _ UA.out).mono ?_
         rintro e w1 ⟨n1, k1, x1, s1, rfl, p1, hb⟩
         have P1 := Aside0.mk p1
         have q := heap_alloc_new w1 (.cells #[.bool n1, .int .i64 k1, .int .i64 x1, .int .u64 s1] 46)
         have H1 := Aside0.mk (hb.alloc hb.size (.cells #[.bool n1, .int .i64 k1, .int .i64 x1, .int .u64 s1] 46))
         have c0 : (w1.alloc (.cells #[.bool n1, .int .i64 k1, .int .i64 x1, .int .u64 s1] 46)).cell? ⟨w1.heap.size, 0, none⟩ = some (.bool n1) := (blk_cell q 0).trans rfl
         have c1 : (w1.alloc (.cells #[.bool n1, .int .i64 k1, .int .i64 x1, .int .u64 s1] 46)).cell? ⟨w1.heap.size, 1, none⟩ = some (.int .i64 k1) := (blk_cell q 1).trans rfl
         have c2 : (w1.alloc (.cells #[.bool n1, .int .i64 k1, .int .i64 x1, .int .u64 s1] 46)).cell? ⟨w1.heap.size, 2, none⟩ = some (.int .i64 x1) := (blk_cell q 2).trans rfl
         have c3 : (w1.alloc (.cells #[.bool n1, .int .i64 k1, .int .i64 x1, .int .u64 s1] 46)).cell? ⟨w1.heap.size, 3, none⟩ = some (.int .u64 s1) := (blk_cell q 3).trans rfl
         clear p1 hb q)
      | fail)
    obtain ⟨W1, hW1⟩ : ∃ W, W = w1.alloc (.cells #[.bool n1, .int .i64 k1, .int .i64 x1, .int .u64 s1] 46) := ⟨_, rfl⟩
    rw [← hW1] at H1 c0 c1 c2 c3 ⊢
    clear hW1
    by_cases c : k1 = 1 ∧ x1 < 0
    · obtain ⟨rfl, cx⟩ := c
      have d1 : decide (0 ≤ x1) = false := decide_eq_false (by omega)
      have NN := Aside0.mk (show ¬ isN wd a from fun h => absurd (P1.out.nan.2 h) (by decide))
      clear cx
      go_upto_region 9 with (first
        | (go_at_call 121; refine (of_calls71 n1 _ x1 s1 _ (parts_rng P1.out).2.2).mono ?_
           rintro e w3 ⟨cb, cn, ch, cr, rfl, uc, hb⟩
           have h3 := below_then H1.out H1.out.size hb
           have G3 := Aside0.mk (show w.heap.size ≤ w3.heap.size from h3.size)
           have H3 := Aside0.mk (h3.alloc h3.size (.cells #[.bool cb, .int .u64 cn, .bool ch, .bool cr] 71))
           have Q3 := Aside0.mk (heap_alloc_new w3 (.cells #[.bool cb, .int .u64 cn, .bool ch, .bool cr] 71))
           have UC := Aside0.mk uc
           clear c0 c1 c2 c3 h3 uc hb)
        | fail)
      obtain ⟨W3, hW3⟩ : ∃ W, W = w3.alloc (.cells #[.bool cb, .int .u64 cn, .bool ch, .bool cr] 71) := ⟨_, rfl⟩
      obtain ⟨q, hq⟩ : ∃ q, q = w3.heap.size := ⟨_, rfl⟩
      rw [← hq] at Q3 G3 ⊢
      rw [← hW3] at Q3 H3 ⊢
      clear hW3 hq
      have c0 : W3.cell? ⟨q, 0, none⟩ = some (.bool cb) := (blk_cell Q3.out 0).trans rfl
      have c1 : W3.cell? ⟨q, 1, none⟩ = some (.int .u64 cn) := (blk_cell Q3.out 1).trans rfl
      have c2 : W3.cell? ⟨q, 2, none⟩ = some (.bool ch) := (blk_cell Q3.out 2).trans rfl
      have c3 : W3.cell? ⟨q, 3, none⟩ = some (.bool cr) := (blk_cell Q3.out 3).trans rfl
      go_cut [45] from 38 (fun s45 wc => ∃ x, s45 = .bool x ∧ wc.heap[q]? = some (.cells #[.bool cb, .int .u64 cn, .bool ch, .bool cr] 71 (0, 0)) ∧ Below w.heap.size w wc)
      case first =>
        go_wp2_with (first
          | (go_at_call 122; refine (exact_calls cb ch cr cn _).mono ?_
             rintro e w4 ⟨⟨ce, rfl⟩, hb⟩
             have H4 := Aside0.mk (below_then H3.out H3.out.size hb)
             have Q4 := Aside0.mk ((hb.block _ (blk_lt Q3.out)).trans Q3.out)
             clear c0 c1 c2 c3 hb
             have c0 : w4.cell? ⟨q, 0, none⟩ = some (.bool cb) := (blk_cell Q4.out 0).trans rfl
             have c1 : w4.cell? ⟨q, 1, none⟩ = some (.int .u64 cn) := (blk_cell Q4.out 1).trans rfl
             have c2 : w4.cell? ⟨q, 2, none⟩ = some (.bool ch) := (blk_cell Q4.out 2).trans rfl
             have c3 : w4.cell? ⟨q, 3, none⟩ = some (.bool cr) := (blk_cell Q4.out 3).trans rfl
             skip)
          | (go_at_call 88; refine (away88 cb ch cr cn _).mono ?_
             rintro e w5 ⟨⟨cf, rfl⟩, hb⟩
             have H4 := Aside0.mk (below_then H4.out H4.out.size hb)
             have Q4 := Aside0.mk ((hb.block _ (blk_lt Q4.out)).trans Q4.out)
             clear hb)
          | fail)
        all_goals
          go_meet
          case rel => exact ⟨_, rfl, Q4.out, H4.out⟩
      obtain ⟨x, rfl, q4, h4⟩ := hcut
      have Q4 := Aside0.mk q4
      have H4 := Aside0.mk h4
      clear c0 c1 c2 c3 q4 h4
      go_upto_if 45 with (fail)
      go_cut [45] from 46 (fun s45 wc => ∃ cm : Int, Tn.u64 cm ∧ wc.heap[q]? = some (.cells #[.bool cb, .int .u64 cm, .bool ch, .bool cr] 71 (0, 0)) ∧ Below w.heap.size w wc)
      case first =>
        cases x
        · go_wp2
          go_meet
          case rel => exact ⟨_, UC.out, Q4.out, H4.out⟩
        · have c0 : wc.cell? ⟨q, 0, none⟩ = some (.bool cb) := (blk_cell Q4.out 0).trans rfl
          have c1 : wc.cell? ⟨q, 1, none⟩ = some (.int .u64 cn) := (blk_cell Q4.out 1).trans rfl
          have c2 : wc.cell? ⟨q, 2, none⟩ = some (.bool ch) := (blk_cell Q4.out 2).trans rfl
          have c3 : wc.cell? ⟨q, 3, none⟩ = some (.bool cr) := (blk_cell Q4.out 3).trans rfl
          have f0 : wc.frozen? ⟨q, 0, none⟩ = false := blk_frozen Q4.out 0
          have f1 : wc.frozen? ⟨q, 1, none⟩ = false := blk_frozen Q4.out 1
          have f2 : wc.frozen? ⟨q, 2, none⟩ = false := blk_frozen Q4.out 2
          have f3 : wc.frozen? ⟨q, 3, none⟩ = false := blk_frozen Q4.out 3
          go_wp2
          go_meet
          case rel => exact ⟨IntKind.u64.wrap (cn + 1), u64_wrap _, by have P := blk_set Q4.out 1 (.int .u64 (IntKind.u64.wrap (cn + 1))); simpa using P, bset H4.out G3.out _ _⟩
      obtain ⟨cm, um, q5, h5⟩ := hcut
      have Q5 := Aside0.mk q5
      have H5 := Aside0.mk h5
      have UM := Aside0.mk um
      clear q5 h5 um
      have c0 : wc.cell? ⟨q, 0, none⟩ = some (.bool cb) := (blk_cell Q5.out 0).trans rfl
      have c1 : wc.cell? ⟨q, 1, none⟩ = some (.int .u64 cm) := (blk_cell Q5.out 1).trans rfl
      go_wp2
      go_region_held (fun W => W.cell? ⟨q, 0, none⟩ = some (.bool cb) ∧ W.cell? ⟨q, 1, none⟩ = some (.int .u64 cm)) (go_keep) (first
        | (go_at_call 124; (with_reducible refine (Of_calls cm _).mono ?_)
           rintro e w6 ⟨rfl, hb⟩
           have H6 := Aside0.mk (below_then (below_drew H5.out) (below_drew H5.out).size hb)
           have Q6 := Aside0.mk ((hb.block _ (blk_lt Q5.out)).trans Q5.out)
           clear c0 c1 hb
           have c0 : w6.cell? ⟨q, 0, none⟩ = some (.bool cb) := (blk_cell Q6.out 0).trans rfl
           have c1 : w6.cell? ⟨q, 1, none⟩ = some (.int .u64 cm) := (blk_cell Q6.out 1).trans rfl
           skip)
        | (go_at_call 123; refine (C.out.P _ _ _ _ _ _ u64_0 UM.out (by unfold i64r; decide)).mono ?_
           rintro e w7 ⟨n, rfl, gn, hb⟩
           have GN := Aside0.mk gn
           have H7 := Aside0.mk (below_then H6.out H6.out.size hb)
           have Q7 := Aside0.mk ((hb.block _ (blk_lt Q6.out)).trans Q6.out)
           clear c0 c1 gn hb
           have c0 : w7.cell? ⟨q, 0, none⟩ = some (.bool cb) := (blk_cell Q7.out 0).trans rfl
           have c1 : w7.cell? ⟨q, 1, none⟩ = some (.int .u64 cm) := (blk_cell Q7.out 1).trans rfl
           skip)
        | fail)
      all_goals
        go_wp2
        refine bodyPost_ret (v := .int .u64 n) (by simp [results, Tryz.results87, go_sem]) rfl ?_
        exact ⟨n, rfl, GN.out, fun h => absurd h NN.out, H7.out⟩
    · have cc : k1 = 3 ∨ (k1 ≠ 3 ∧ k1 ≠ 1) ∨ (k1 = 1 ∧ 0 ≤ x1) := by omega
      have kk := P1.out.kind
      rcases cc with rfl | ⟨h3, h1⟩ | ⟨rfl, cx⟩
      all_goals
        first
          | (have e3 : (k1 == 3) = false := beq_eq_false_iff_ne.2 h3
             have e1 : (k1 != 1) = true := bne_iff_ne.2 h1
             have NN := Aside0.mk (show ¬ isN wd a from fun h => h3 (P1.out.nan.2 h))
             clear h3 h1)
          | (have e1 : decide (0 ≤ x1) = true := decide_eq_true cx
             have NN := Aside0.mk (show ¬ isN wd a from fun h => absurd (P1.out.nan.2 h) (by decide))
             clear cx)
          | skip
      all_goals
        clear c kk
        go_wp2_with (first
          | (go_at_call 7; refine (C.out.N _).mono ?_
             rintro e w2 ⟨rfl, hb⟩
             obtain ⟨n, hn⟩ : ∃ n, n = cN wd := ⟨_, rfl⟩
             have RR := Aside0.mk (show Good wd n ∧ (isN wd a → n = cN wd) ∧ Below w.heap.size w w2 from ⟨by rw [hn]; exact C.out.cn, fun _ => hn, below_then H1.out H1.out.size hb⟩)
             rw [← hn]
             clear hn hb)
          | (go_at_call 8; refine (cut_calls C.out.wid a _ UA.out).mono ?_
             rintro e w2 ⟨n, rfl, un, hi, hb⟩
             have RR := Aside0.mk (show Good wd n ∧ (isN wd a → n = cN wd) ∧ Below w.heap.size w w2 from ⟨⟨un, .inl (fun h => NN.out (hi.1 h))⟩, fun h => absurd h NN.out, below_then H1.out H1.out.size hb⟩)
             clear un hi hb)
          | fail)
        refine bodyPost_ret (v := .int .u64 n) (by simp [results, Tryz.results87, go_sem]) rfl ?_
        exact ⟨n, rfl, RR.out⟩
set_option maxRecDepth 100000 in
set_option maxHeartbeats 4000000 in
theorem made_89 {wd : Int} (C : Fl wd) (a : Int) (w : World) (ua : u64 a) : Calls Tryz.prog 87 #[.int .i64 wd, .int .u64 a, .func (.func 89) #[] #[]] w (Ans w wd (isN wd a)) := by
  have UA := Aside0.mk ua
  have C := Aside0.mk C
  have kd : (wd != 32) = false ∨ ((wd != 32) = true ∧ (wd != 64) = false) := by rcases C.out.wid with h | h <;> simp [h]
  clear ua
  rcases kd with k1 | ⟨k1, k2⟩
  all_goals
    go_enter Tryz.func87, Tryz.ntmps87
    go_upto_region 4 with (first
      | (go_at_call 23; refine (C.out.O a _ UA.out).mono ?_
         rintro e w1 ⟨n1, k1, x1, s1, rfl, p1, hb⟩
         have P1 := Aside0.mk p1
         have q := heap_alloc_new w1 (.cells #[.bool n1, .int .i64 k1, .int .i64 x1, .int .u64 s1] 46)
         have H1 := Aside0.mk (hb.alloc hb.size (.cells #[.bool n1, .int .i64 k1, .int .i64 x1, .int .u64 s1] 46))
         have c0 : (w1.alloc (.cells #[.bool n1, .int .i64 k1, .int .i64 x1, .int .u64 s1] 46)).cell? ⟨w1.heap.size, 0, none⟩ = some (.bool n1) := (blk_cell q 0).trans rfl
         have c1 : (w1.alloc (.cells #[.bool n1, .int .i64 k1, .int .i64 x1, .int .u64 s1] 46)).cell? ⟨w1.heap.size, 1, none⟩ = some (.int .i64 k1) := (blk_cell q 1).trans rfl
         have c2 : (w1.alloc (.cells #[.bool n1, .int .i64 k1, .int .i64 x1, .int .u64 s1] 46)).cell? ⟨w1.heap.size, 2, none⟩ = some (.int .i64 x1) := (blk_cell q 2).trans rfl
         have c3 : (w1.alloc (.cells #[.bool n1, .int .i64 k1, .int .i64 x1, .int .u64 s1] 46)).cell? ⟨w1.heap.size, 3, none⟩ = some (.int .u64 s1) := (blk_cell q 3).trans rfl
         clear p1 hb q)
      | fail)
    obtain ⟨W1, hW1⟩ : ∃ W, W = w1.alloc (.cells #[.bool n1, .int .i64 k1, .int .i64 x1, .int .u64 s1] 46) := ⟨_, rfl⟩
    rw [← hW1] at H1 c0 c1 c2 c3 ⊢
    clear hW1
    by_cases c : k1 = 1 ∧ x1 < 0
    · obtain ⟨rfl, cx⟩ := c
      have d1 : decide (0 ≤ x1) = false := decide_eq_false (by omega)
      have NN := Aside0.mk (show ¬ isN wd a from fun h => absurd (P1.out.nan.2 h) (by decide))
      clear cx
      go_upto_region 9 with (first
        | (go_at_call 121; refine (of_calls71 n1 _ x1 s1 _ (parts_rng P1.out).2.2).mono ?_
           rintro e w3 ⟨cb, cn, ch, cr, rfl, uc, hb⟩
           have h3 := below_then H1.out H1.out.size hb
           have G3 := Aside0.mk (show w.heap.size ≤ w3.heap.size from h3.size)
           have H3 := Aside0.mk (h3.alloc h3.size (.cells #[.bool cb, .int .u64 cn, .bool ch, .bool cr] 71))
           have Q3 := Aside0.mk (heap_alloc_new w3 (.cells #[.bool cb, .int .u64 cn, .bool ch, .bool cr] 71))
           have UC := Aside0.mk uc
           clear c0 c1 c2 c3 h3 uc hb)
        | fail)
      obtain ⟨W3, hW3⟩ : ∃ W, W = w3.alloc (.cells #[.bool cb, .int .u64 cn, .bool ch, .bool cr] 71) := ⟨_, rfl⟩
      obtain ⟨q, hq⟩ : ∃ q, q = w3.heap.size := ⟨_, rfl⟩
      rw [← hq] at Q3 G3 ⊢
      rw [← hW3] at Q3 H3 ⊢
      clear hW3 hq
      have c0 : W3.cell? ⟨q, 0, none⟩ = some (.bool cb) := (blk_cell Q3.out 0).trans rfl
      have c1 : W3.cell? ⟨q, 1, none⟩ = some (.int .u64 cn) := (blk_cell Q3.out 1).trans rfl
      have c2 : W3.cell? ⟨q, 2, none⟩ = some (.bool ch) := (blk_cell Q3.out 2).trans rfl
      have c3 : W3.cell? ⟨q, 3, none⟩ = some (.bool cr) := (blk_cell Q3.out 3).trans rfl
      go_cut [45] from 38 (fun s45 wc => ∃ x, s45 = .bool x ∧ wc.heap[q]? = some (.cells #[.bool cb, .int .u64 cn, .bool ch, .bool cr] 71 (0, 0)) ∧ Below w.heap.size w wc)
      case first =>
        go_wp2_with (first
          | (go_at_call 122; refine (exact_calls cb ch cr cn _).mono ?_
             rintro e w4 ⟨⟨ce, rfl⟩, hb⟩
             have H4 := Aside0.mk (below_then H3.out H3.out.size hb)
             have Q4 := Aside0.mk ((hb.block _ (blk_lt Q3.out)).trans Q3.out)
             clear c0 c1 c2 c3 hb
             have c0 : w4.cell? ⟨q, 0, none⟩ = some (.bool cb) := (blk_cell Q4.out 0).trans rfl
             have c1 : w4.cell? ⟨q, 1, none⟩ = some (.int .u64 cn) := (blk_cell Q4.out 1).trans rfl
             have c2 : w4.cell? ⟨q, 2, none⟩ = some (.bool ch) := (blk_cell Q4.out 2).trans rfl
             have c3 : w4.cell? ⟨q, 3, none⟩ = some (.bool cr) := (blk_cell Q4.out 3).trans rfl
             skip)
          | (go_at_call 89; refine (away89 cb ch cr cn _).mono ?_
             rintro e w5 ⟨⟨cf, rfl⟩, hb⟩
             have H4 := Aside0.mk (below_then H4.out H4.out.size hb)
             have Q4 := Aside0.mk ((hb.block _ (blk_lt Q4.out)).trans Q4.out)
             clear hb)
          | fail)
        all_goals
          go_meet
          case rel => exact ⟨_, rfl, Q4.out, H4.out⟩
      obtain ⟨x, rfl, q4, h4⟩ := hcut
      have Q4 := Aside0.mk q4
      have H4 := Aside0.mk h4
      clear c0 c1 c2 c3 q4 h4
      go_upto_if 45 with (fail)
      go_cut [45] from 46 (fun s45 wc => ∃ cm : Int, Tn.u64 cm ∧ wc.heap[q]? = some (.cells #[.bool cb, .int .u64 cm, .bool ch, .bool cr] 71 (0, 0)) ∧ Below w.heap.size w wc)
      case first =>
        cases x
        · go_wp2
          go_meet
          case rel => exact ⟨_, UC.out, Q4.out, H4.out⟩
        · have c0 : wc.cell? ⟨q, 0, none⟩ = some (.bool cb) := (blk_cell Q4.out 0).trans rfl
          have c1 : wc.cell? ⟨q, 1, none⟩ = some (.int .u64 cn) := (blk_cell Q4.out 1).trans rfl
          have c2 : wc.cell? ⟨q, 2, none⟩ = some (.bool ch) := (blk_cell Q4.out 2).trans rfl
          have c3 : wc.cell? ⟨q, 3, none⟩ = some (.bool cr) := (blk_cell Q4.out 3).trans rfl
          have f0 : wc.frozen? ⟨q, 0, none⟩ = false := blk_frozen Q4.out 0
          have f1 : wc.frozen? ⟨q, 1, none⟩ = false := blk_frozen Q4.out 1
          have f2 : wc.frozen? ⟨q, 2, none⟩ = false := blk_frozen Q4.out 2
          have f3 : wc.frozen? ⟨q, 3, none⟩ = false := blk_frozen Q4.out 3
          go_wp2
          go_meet
          case rel => exact ⟨IntKind.u64.wrap (cn + 1), u64_wrap _, by have P := blk_set Q4.out 1 (.int .u64 (IntKind.u64.wrap (cn + 1))); simpa using P, bset H4.out G3.out _ _⟩
      obtain ⟨cm, um, q5, h5⟩ := hcut
      have Q5 := Aside0.mk q5
      have H5 := Aside0.mk h5
      have UM := Aside0.mk um
      clear q5 h5 um
      have c0 : wc.cell? ⟨q, 0, none⟩ = some (.bool cb) := (blk_cell Q5.out 0).trans rfl
      have c1 : wc.cell? ⟨q, 1, none⟩ = some (.int .u64 cm) := (blk_cell Q5.out 1).trans rfl
      go_wp2
      go_region_held (fun W => W.cell? ⟨q, 0, none⟩ = some (.bool cb) ∧ W.cell? ⟨q, 1, none⟩ = some (.int .u64 cm)) (go_keep) (first
        | (go_at_call 124; (with_reducible refine (Of_calls cm _).mono ?_)
           rintro e w6 ⟨rfl, hb⟩
           have H6 := Aside0.mk (below_then (below_drew H5.out) (below_drew H5.out).size hb)
           have Q6 := Aside0.mk ((hb.block _ (blk_lt Q5.out)).trans Q5.out)
           clear c0 c1 hb
           have c0 : w6.cell? ⟨q, 0, none⟩ = some (.bool cb) := (blk_cell Q6.out 0).trans rfl
           have c1 : w6.cell? ⟨q, 1, none⟩ = some (.int .u64 cm) := (blk_cell Q6.out 1).trans rfl
           skip)
        | (go_at_call 123; refine (C.out.P _ _ _ _ _ _ u64_0 UM.out (by unfold i64r; decide)).mono ?_
           rintro e w7 ⟨n, rfl, gn, hb⟩
           have GN := Aside0.mk gn
           have H7 := Aside0.mk (below_then H6.out H6.out.size hb)
           have Q7 := Aside0.mk ((hb.block _ (blk_lt Q6.out)).trans Q6.out)
           clear c0 c1 gn hb
           have c0 : w7.cell? ⟨q, 0, none⟩ = some (.bool cb) := (blk_cell Q7.out 0).trans rfl
           have c1 : w7.cell? ⟨q, 1, none⟩ = some (.int .u64 cm) := (blk_cell Q7.out 1).trans rfl
           skip)
        | fail)
      all_goals
        go_wp2
        refine bodyPost_ret (v := .int .u64 n) (by simp [results, Tryz.results87, go_sem]) rfl ?_
        exact ⟨n, rfl, GN.out, fun h => absurd h NN.out, H7.out⟩
    · have cc : k1 = 3 ∨ (k1 ≠ 3 ∧ k1 ≠ 1) ∨ (k1 = 1 ∧ 0 ≤ x1) := by omega
      have kk := P1.out.kind
      rcases cc with rfl | ⟨h3, h1⟩ | ⟨rfl, cx⟩
      all_goals
        first
          | (have e3 : (k1 == 3) = false := beq_eq_false_iff_ne.2 h3
             have e1 : (k1 != 1) = true := bne_iff_ne.2 h1
             have NN := Aside0.mk (show ¬ isN wd a from fun h => h3 (P1.out.nan.2 h))
             clear h3 h1)
          | (have e1 : decide (0 ≤ x1) = true := decide_eq_true cx
             have NN := Aside0.mk (show ¬ isN wd a from fun h => absurd (P1.out.nan.2 h) (by decide))
             clear cx)
          | skip
      all_goals
        clear c kk
        go_wp2_with (first
          | (go_at_call 7; refine (C.out.N _).mono ?_
             rintro e w2 ⟨rfl, hb⟩
             obtain ⟨n, hn⟩ : ∃ n, n = cN wd := ⟨_, rfl⟩
             have RR := Aside0.mk (show Good wd n ∧ (isN wd a → n = cN wd) ∧ Below w.heap.size w w2 from ⟨by rw [hn]; exact C.out.cn, fun _ => hn, below_then H1.out H1.out.size hb⟩)
             rw [← hn]
             clear hn hb)
          | (go_at_call 8; refine (cut_calls C.out.wid a _ UA.out).mono ?_
             rintro e w2 ⟨n, rfl, un, hi, hb⟩
             have RR := Aside0.mk (show Good wd n ∧ (isN wd a → n = cN wd) ∧ Below w.heap.size w w2 from ⟨⟨un, .inl (fun h => NN.out (hi.1 h))⟩, fun h => absurd h NN.out, below_then H1.out H1.out.size hb⟩)
             clear un hi hb)
          | fail)
        refine bodyPost_ret (v := .int .u64 n) (by simp [results, Tryz.results87, go_sem]) rfl ?_
        exact ⟨n, rfl, RR.out⟩
set_option maxRecDepth 100000 in
set_option maxHeartbeats 4000000 in
theorem made_90 {wd : Int} (C : Fl wd) (a : Int) (w : World) (ua : u64 a) : Calls Tryz.prog 87 #[.int .i64 wd, .int .u64 a, .func (.func 90) #[] #[]] w (Ans w wd (isN wd a)) := by
  have UA := Aside0.mk ua
  have C := Aside0.mk C
  have kd : (wd != 32) = false ∨ ((wd != 32) = true ∧ (wd != 64) = false) := by rcases C.out.wid with h | h <;> simp [h]
  clear ua
  rcases kd with k1 | ⟨k1, k2⟩
  all_goals
    go_enter Tryz.func87, Tryz.ntmps87
    go_upto_region 4 with (first
      | (go_at_call 23; refine (C.out.O a _ UA.out).mono ?_
         rintro e w1 ⟨n1, k1, x1, s1, rfl, p1, hb⟩
         have P1 := Aside0.mk p1
         have q := heap_alloc_new w1 (.cells #[.bool n1, .int .i64 k1, .int .i64 x1, .int .u64 s1] 46)
         have H1 := Aside0.mk (hb.alloc hb.size (.cells #[.bool n1, .int .i64 k1, .int .i64 x1, .int .u64 s1] 46))
         have c0 : (w1.alloc (.cells #[.bool n1, .int .i64 k1, .int .i64 x1, .int .u64 s1] 46)).cell? ⟨w1.heap.size, 0, none⟩ = some (.bool n1) := (blk_cell q 0).trans rfl
         have c1 : (w1.alloc (.cells #[.bool n1, .int .i64 k1, .int .i64 x1, .int .u64 s1] 46)).cell? ⟨w1.heap.size, 1, none⟩ = some (.int .i64 k1) := (blk_cell q 1).trans rfl
         have c2 : (w1.alloc (.cells #[.bool n1, .int .i64 k1, .int .i64 x1, .int .u64 s1] 46)).cell? ⟨w1.heap.size, 2, none⟩ = some (.int .i64 x1) := (blk_cell q 2).trans rfl
         have c3 : (w1.alloc (.cells #[.bool n1, .int .i64 k1, .int .i64 x1, .int .u64 s1] 46)).cell? ⟨w1.heap.size, 3, none⟩ = some (.int .u64 s1) := (blk_cell q 3).trans rfl
         clear p1 hb q)
      | fail)
    obtain ⟨W1, hW1⟩ : ∃ W, W = w1.alloc (.cells #[.bool n1, .int .i64 k1, .int .i64 x1, .int .u64 s1] 46) := ⟨_, rfl⟩
    rw [← hW1] at H1 c0 c1 c2 c3 ⊢
    clear hW1
    by_cases c : k1 = 1 ∧ x1 < 0
    · obtain ⟨rfl, cx⟩ := c
      have d1 : decide (0 ≤ x1) = false := decide_eq_false (by omega)
      have NN := Aside0.mk (show ¬ isN wd a from fun h => absurd (P1.out.nan.2 h) (by decide))
      clear cx
      go_upto_region 9 with (first
        | (go_at_call 121; refine (of_calls71 n1 _ x1 s1 _ (parts_rng P1.out).2.2).mono ?_
           rintro e w3 ⟨cb, cn, ch, cr, rfl, uc, hb⟩
           have h3 := below_then H1.out H1.out.size hb
           have G3 := Aside0.mk (show w.heap.size ≤ w3.heap.size from h3.size)
           have H3 := Aside0.mk (h3.alloc h3.size (.cells #[.bool cb, .int .u64 cn, .bool ch, .bool cr] 71))
           have Q3 := Aside0.mk (heap_alloc_new w3 (.cells #[.bool cb, .int .u64 cn, .bool ch, .bool cr] 71))
           have UC := Aside0.mk uc
           clear c0 c1 c2 c3 h3 uc hb)
        | fail)
      obtain ⟨W3, hW3⟩ : ∃ W, W = w3.alloc (.cells #[.bool cb, .int .u64 cn, .bool ch, .bool cr] 71) := ⟨_, rfl⟩
      obtain ⟨q, hq⟩ : ∃ q, q = w3.heap.size := ⟨_, rfl⟩
      rw [← hq] at Q3 G3 ⊢
      rw [← hW3] at Q3 H3 ⊢
      clear hW3 hq
      have c0 : W3.cell? ⟨q, 0, none⟩ = some (.bool cb) := (blk_cell Q3.out 0).trans rfl
      have c1 : W3.cell? ⟨q, 1, none⟩ = some (.int .u64 cn) := (blk_cell Q3.out 1).trans rfl
      have c2 : W3.cell? ⟨q, 2, none⟩ = some (.bool ch) := (blk_cell Q3.out 2).trans rfl
      have c3 : W3.cell? ⟨q, 3, none⟩ = some (.bool cr) := (blk_cell Q3.out 3).trans rfl
      go_cut [45] from 38 (fun s45 wc => ∃ x, s45 = .bool x ∧ wc.heap[q]? = some (.cells #[.bool cb, .int .u64 cn, .bool ch, .bool cr] 71 (0, 0)) ∧ Below w.heap.size w wc)
      case first =>
        go_wp2_with (first
          | (go_at_call 122; refine (exact_calls cb ch cr cn _).mono ?_
             rintro e w4 ⟨⟨ce, rfl⟩, hb⟩
             have H4 := Aside0.mk (below_then H3.out H3.out.size hb)
             have Q4 := Aside0.mk ((hb.block _ (blk_lt Q3.out)).trans Q3.out)
             clear c0 c1 c2 c3 hb
             have c0 : w4.cell? ⟨q, 0, none⟩ = some (.bool cb) := (blk_cell Q4.out 0).trans rfl
             have c1 : w4.cell? ⟨q, 1, none⟩ = some (.int .u64 cn) := (blk_cell Q4.out 1).trans rfl
             have c2 : w4.cell? ⟨q, 2, none⟩ = some (.bool ch) := (blk_cell Q4.out 2).trans rfl
             have c3 : w4.cell? ⟨q, 3, none⟩ = some (.bool cr) := (blk_cell Q4.out 3).trans rfl
             skip)
          | (go_at_call 90; refine (away90 cb ch cr cn _).mono ?_
             rintro e w5 ⟨⟨cf, rfl⟩, hb⟩
             have H4 := Aside0.mk (below_then H4.out H4.out.size hb)
             have Q4 := Aside0.mk ((hb.block _ (blk_lt Q4.out)).trans Q4.out)
             clear hb)
          | fail)
        all_goals
          go_meet
          case rel => exact ⟨_, rfl, Q4.out, H4.out⟩
      obtain ⟨x, rfl, q4, h4⟩ := hcut
      have Q4 := Aside0.mk q4
      have H4 := Aside0.mk h4
      clear c0 c1 c2 c3 q4 h4
      go_upto_if 45 with (fail)
      go_cut [45] from 46 (fun s45 wc => ∃ cm : Int, Tn.u64 cm ∧ wc.heap[q]? = some (.cells #[.bool cb, .int .u64 cm, .bool ch, .bool cr] 71 (0, 0)) ∧ Below w.heap.size w wc)
      case first =>
        cases x
        · go_wp2
          go_meet
          case rel => exact ⟨_, UC.out, Q4.out, H4.out⟩
        · have c0 : wc.cell? ⟨q, 0, none⟩ = some (.bool cb) := (blk_cell Q4.out 0).trans rfl
          have c1 : wc.cell? ⟨q, 1, none⟩ = some (.int .u64 cn) := (blk_cell Q4.out 1).trans rfl
          have c2 : wc.cell? ⟨q, 2, none⟩ = some (.bool ch) := (blk_cell Q4.out 2).trans rfl
          have c3 : wc.cell? ⟨q, 3, none⟩ = some (.bool cr) := (blk_cell Q4.out 3).trans rfl
          have f0 : wc.frozen? ⟨q, 0, none⟩ = false := blk_frozen Q4.out 0
          have f1 : wc.frozen? ⟨q, 1, none⟩ = false := blk_frozen Q4.out 1
          have f2 : wc.frozen? ⟨q, 2, none⟩ = false := blk_frozen Q4.out 2
          have f3 : wc.frozen? ⟨q, 3, none⟩ = false := blk_frozen Q4.out 3
          go_wp2
          go_meet
          case rel => exact ⟨IntKind.u64.wrap (cn + 1), u64_wrap _, by have P := blk_set Q4.out 1 (.int .u64 (IntKind.u64.wrap (cn + 1))); simpa using P, bset H4.out G3.out _ _⟩
      obtain ⟨cm, um, q5, h5⟩ := hcut
      have Q5 := Aside0.mk q5
      have H5 := Aside0.mk h5
      have UM := Aside0.mk um
      clear q5 h5 um
      have c0 : wc.cell? ⟨q, 0, none⟩ = some (.bool cb) := (blk_cell Q5.out 0).trans rfl
      have c1 : wc.cell? ⟨q, 1, none⟩ = some (.int .u64 cm) := (blk_cell Q5.out 1).trans rfl
      go_wp2
      go_region_held (fun W => W.cell? ⟨q, 0, none⟩ = some (.bool cb) ∧ W.cell? ⟨q, 1, none⟩ = some (.int .u64 cm)) (go_keep) (first
        | (go_at_call 124; (with_reducible refine (Of_calls cm _).mono ?_)
           rintro e w6 ⟨rfl, hb⟩
           have H6 := Aside0.mk (below_then (below_drew H5.out) (below_drew H5.out).size hb)
           have Q6 := Aside0.mk ((hb.block _ (blk_lt Q5.out)).trans Q5.out)
           clear c0 c1 hb
           have c0 : w6.cell? ⟨q, 0, none⟩ = some (.bool cb) := (blk_cell Q6.out 0).trans rfl
           have c1 : w6.cell? ⟨q, 1, none⟩ = some (.int .u64 cm) := (blk_cell Q6.out 1).trans rfl
           skip)
        | (go_at_call 123; refine (C.out.P _ _ _ _ _ _ u64_0 UM.out (by unfold i64r; decide)).mono ?_
           rintro e w7 ⟨n, rfl, gn, hb⟩
           have GN := Aside0.mk gn
           have H7 := Aside0.mk (below_then H6.out H6.out.size hb)
           have Q7 := Aside0.mk ((hb.block _ (blk_lt Q6.out)).trans Q6.out)
           clear c0 c1 gn hb
           have c0 : w7.cell? ⟨q, 0, none⟩ = some (.bool cb) := (blk_cell Q7.out 0).trans rfl
           have c1 : w7.cell? ⟨q, 1, none⟩ = some (.int .u64 cm) := (blk_cell Q7.out 1).trans rfl
           skip)
        | fail)
      all_goals
        go_wp2
        refine bodyPost_ret (v := .int .u64 n) (by simp [results, Tryz.results87, go_sem]) rfl ?_
        exact ⟨n, rfl, GN.out, fun h => absurd h NN.out, H7.out⟩
    · have cc : k1 = 3 ∨ (k1 ≠ 3 ∧ k1 ≠ 1) ∨ (k1 = 1 ∧ 0 ≤ x1) := by omega
      have kk := P1.out.kind
      rcases cc with rfl | ⟨h3, h1⟩ | ⟨rfl, cx⟩
      all_goals
        first
          | (have e3 : (k1 == 3) = false := beq_eq_false_iff_ne.2 h3
             have e1 : (k1 != 1) = true := bne_iff_ne.2 h1
             have NN := Aside0.mk (show ¬ isN wd a from fun h => h3 (P1.out.nan.2 h))
             clear h3 h1)
          | (have e1 : decide (0 ≤ x1) = true := decide_eq_true cx
             have NN := Aside0.mk (show ¬ isN wd a from fun h => absurd (P1.out.nan.2 h) (by decide))
             clear cx)
          | skip
      all_goals
        clear c kk
        go_wp2_with (first
          | (go_at_call 7; refine (C.out.N _).mono ?_
             rintro e w2 ⟨rfl, hb⟩
             obtain ⟨n, hn⟩ : ∃ n, n = cN wd := ⟨_, rfl⟩
             have RR := Aside0.mk (show Good wd n ∧ (isN wd a → n = cN wd) ∧ Below w.heap.size w w2 from ⟨by rw [hn]; exact C.out.cn, fun _ => hn, below_then H1.out H1.out.size hb⟩)
             rw [← hn]
             clear hn hb)
          | (go_at_call 8; refine (cut_calls C.out.wid a _ UA.out).mono ?_
             rintro e w2 ⟨n, rfl, un, hi, hb⟩
             have RR := Aside0.mk (show Good wd n ∧ (isN wd a → n = cN wd) ∧ Below w.heap.size w w2 from ⟨⟨un, .inl (fun h => NN.out (hi.1 h))⟩, fun h => absurd h NN.out, below_then H1.out H1.out.size hb⟩)
             clear un hi hb)
          | fail)
        refine bodyPost_ret (v := .int .u64 n) (by simp [results, Tryz.results87, go_sem]) rfl ?_
        exact ⟨n, rfl, RR.out⟩
set_option maxRecDepth 100000 in
set_option maxHeartbeats 4000000 in
theorem made_91 {wd : Int} (C : Fl wd) (a : Int) (w : World) (ua : u64 a) : Calls Tryz.prog 87 #[.int .i64 wd, .int .u64 a, .func (.func 91) #[] #[]] w (Ans w wd (isN wd a)) := by
  have UA := Aside0.mk ua
  have C := Aside0.mk C
  have kd : (wd != 32) = false ∨ ((wd != 32) = true ∧ (wd != 64) = false) := by rcases C.out.wid with h | h <;> simp [h]
  clear ua
  rcases kd with k1 | ⟨k1, k2⟩
  all_goals
    go_enter Tryz.func87, Tryz.ntmps87
    go_upto_region 4 with (first
      | (go_at_call 23; refine (C.out.O a _ UA.out).mono ?_
         rintro e w1 ⟨n1, k1, x1, s1, rfl, p1, hb⟩
         have P1 := Aside0.mk p1
         have q := heap_alloc_new w1 (.cells #[.bool n1, .int .i64 k1, .int .i64 x1, .int .u64 s1] 46)
         have H1 := Aside0.mk (hb.alloc hb.size (.cells #[.bool n1, .int .i64 k1, .int .i64 x1, .int .u64 s1] 46))
         have c0 : (w1.alloc (.cells #[.bool n1, .int .i64 k1, .int .i64 x1, .int .u64 s1] 46)).cell? ⟨w1.heap.size, 0, none⟩ = some (.bool n1) := (blk_cell q 0).trans rfl
         have c1 : (w1.alloc (.cells #[.bool n1, .int .i64 k1, .int .i64 x1, .int .u64 s1] 46)).cell? ⟨w1.heap.size, 1, none⟩ = some (.int .i64 k1) := (blk_cell q 1).trans rfl
         have c2 : (w1.alloc (.cells #[.bool n1, .int .i64 k1, .int .i64 x1, .int .u64 s1] 46)).cell? ⟨w1.heap.size, 2, none⟩ = some (.int .i64 x1) := (blk_cell q 2).trans rfl
         have c3 : (w1.alloc (.cells #[.bool n1, .int .i64 k1, .int .i64 x1, .int .u64 s1] 46)).cell? ⟨w1.heap.size, 3, none⟩ = some (.int .u64 s1) := (blk_cell q 3).trans rfl
         clear p1 hb q)
      | fail)
    obtain ⟨W1, hW1⟩ : ∃ W, W = w1.alloc (.cells #[.bool n1, .int .i64 k1, .int .i64 x1, .int .u64 s1] 46) := ⟨_, rfl⟩
    rw [← hW1] at H1 c0 c1 c2 c3 ⊢
    clear hW1
    by_cases c : k1 = 1 ∧ x1 < 0
    · obtain ⟨rfl, cx⟩ := c
      have d1 : decide (0 ≤ x1) = false := decide_eq_false (by omega)
      have NN := Aside0.mk (show ¬ isN wd a from fun h => absurd (P1.out.nan.2 h) (by decide))
      clear cx
      go_upto_region 9 with (first
        | (go_at_call 121; refine (of_calls71 n1 _ x1 s1 _ (parts_rng P1.out).2.2).mono ?_
           rintro e w3 ⟨cb, cn, ch, cr, rfl, uc, hb⟩
           have h3 := below_then H1.out H1.out.size hb
           have G3 := Aside0.mk (show w.heap.size ≤ w3.heap.size from h3.size)
           have H3 := Aside0.mk (h3.alloc h3.size (.cells #[.bool cb, .int .u64 cn, .bool ch, .bool cr] 71))
           have Q3 := Aside0.mk (heap_alloc_new w3 (.cells #[.bool cb, .int .u64 cn, .bool ch, .bool cr] 71))
           have UC := Aside0.mk uc
           clear c0 c1 c2 c3 h3 uc hb)
        | fail)
      obtain ⟨W3, hW3⟩ : ∃ W, W = w3.alloc (.cells #[.bool cb, .int .u64 cn, .bool ch, .bool cr] 71) := ⟨_, rfl⟩
      obtain ⟨q, hq⟩ : ∃ q, q = w3.heap.size := ⟨_, rfl⟩
      rw [← hq] at Q3 G3 ⊢
      rw [← hW3] at Q3 H3 ⊢
      clear hW3 hq
      have c0 : W3.cell? ⟨q, 0, none⟩ = some (.bool cb) := (blk_cell Q3.out 0).trans rfl
      have c1 : W3.cell? ⟨q, 1, none⟩ = some (.int .u64 cn) := (blk_cell Q3.out 1).trans rfl
      have c2 : W3.cell? ⟨q, 2, none⟩ = some (.bool ch) := (blk_cell Q3.out 2).trans rfl
      have c3 : W3.cell? ⟨q, 3, none⟩ = some (.bool cr) := (blk_cell Q3.out 3).trans rfl
      go_cut [45] from 38 (fun s45 wc => ∃ x, s45 = .bool x ∧ wc.heap[q]? = some (.cells #[.bool cb, .int .u64 cn, .bool ch, .bool cr] 71 (0, 0)) ∧ Below w.heap.size w wc)
      case first =>
        go_wp2_with (first
          | (go_at_call 122; refine (exact_calls cb ch cr cn _).mono ?_
             rintro e w4 ⟨⟨ce, rfl⟩, hb⟩
             have H4 := Aside0.mk (below_then H3.out H3.out.size hb)
             have Q4 := Aside0.mk ((hb.block _ (blk_lt Q3.out)).trans Q3.out)
             clear c0 c1 c2 c3 hb
             have c0 : w4.cell? ⟨q, 0, none⟩ = some (.bool cb) := (blk_cell Q4.out 0).trans rfl
             have c1 : w4.cell? ⟨q, 1, none⟩ = some (.int .u64 cn) := (blk_cell Q4.out 1).trans rfl
             have c2 : w4.cell? ⟨q, 2, none⟩ = some (.bool ch) := (blk_cell Q4.out 2).trans rfl
             have c3 : w4.cell? ⟨q, 3, none⟩ = some (.bool cr) := (blk_cell Q4.out 3).trans rfl
             skip)
          | (go_at_call 91; refine (away91 cb ch cr cn _).mono ?_
             rintro e w5 ⟨⟨cf, rfl⟩, hb⟩
             have H4 := Aside0.mk (below_then H4.out H4.out.size hb)
             have Q4 := Aside0.mk ((hb.block _ (blk_lt Q4.out)).trans Q4.out)
             clear hb)
          | fail)
        all_goals
          go_meet
          case rel => exact ⟨_, rfl, Q4.out, H4.out⟩
      obtain ⟨x, rfl, q4, h4⟩ := hcut
      have Q4 := Aside0.mk q4
      have H4 := Aside0.mk h4
      clear c0 c1 c2 c3 q4 h4
      go_upto_if 45 with (fail)
      go_cut [45] from 46 (fun s45 wc => ∃ cm : Int, Tn.u64 cm ∧ wc.heap[q]? = some (.cells #[.bool cb, .int .u64 cm, .bool ch, .bool cr] 71 (0, 0)) ∧ Below w.heap.size w wc)
      case first =>
        cases x
        · go_wp2
          go_meet
          case rel => exact ⟨_, UC.out, Q4.out, H4.out⟩
        · have c0 : wc.cell? ⟨q, 0, none⟩ = some (.bool cb) := (blk_cell Q4.out 0).trans rfl
          have c1 : wc.cell? ⟨q, 1, none⟩ = some (.int .u64 cn) := (blk_cell Q4.out 1).trans rfl
          have c2 : wc.cell? ⟨q, 2, none⟩ = some (.bool ch) := (blk_cell Q4.out 2).trans rfl
          have c3 : wc.cell? ⟨q, 3, none⟩ = some (.bool cr) := (blk_cell Q4.out 3).trans rfl
          have f0 : wc.frozen? ⟨q, 0, none⟩ = false := blk_frozen Q4.out 0
          have f1 : wc.frozen? ⟨q, 1, none⟩ = false := blk_frozen Q4.out 1
          have f2 : wc.frozen? ⟨q, 2, none⟩ = false := blk_frozen Q4.out 2
          have f3 : wc.frozen? ⟨q, 3, none⟩ = false := blk_frozen Q4.out 3
          go_wp2
          go_meet
          case rel => exact ⟨IntKind.u64.wrap (cn + 1), u64_wrap _, by have P := blk_set Q4.out 1 (.int .u64 (IntKind.u64.wrap (cn + 1))); simpa using P, bset H4.out G3.out _ _⟩
      obtain ⟨cm, um, q5, h5⟩ := hcut
      have Q5 := Aside0.mk q5
      have H5 := Aside0.mk h5
      have UM := Aside0.mk um
      clear q5 h5 um
      have c0 : wc.cell? ⟨q, 0, none⟩ = some (.bool cb) := (blk_cell Q5.out 0).trans rfl
      have c1 : wc.cell? ⟨q, 1, none⟩ = some (.int .u64 cm) := (blk_cell Q5.out 1).trans rfl
      go_wp2
      go_region_held (fun W => W.cell? ⟨q, 0, none⟩ = some (.bool cb) ∧ W.cell? ⟨q, 1, none⟩ = some (.int .u64 cm)) (go_keep) (first
        | (go_at_call 124; (with_reducible refine (Of_calls cm _).mono ?_)
           rintro e w6 ⟨rfl, hb⟩
           have H6 := Aside0.mk (below_then (below_drew H5.out) (below_drew H5.out).size hb)
           have Q6 := Aside0.mk ((hb.block _ (blk_lt Q5.out)).trans Q5.out)
           clear c0 c1 hb
           have c0 : w6.cell? ⟨q, 0, none⟩ = some (.bool cb) := (blk_cell Q6.out 0).trans rfl
           have c1 : w6.cell? ⟨q, 1, none⟩ = some (.int .u64 cm) := (blk_cell Q6.out 1).trans rfl
           skip)
        | (go_at_call 123; refine (C.out.P _ _ _ _ _ _ u64_0 UM.out (by unfold i64r; decide)).mono ?_
           rintro e w7 ⟨n, rfl, gn, hb⟩
           have GN := Aside0.mk gn
           have H7 := Aside0.mk (below_then H6.out H6.out.size hb)
           have Q7 := Aside0.mk ((hb.block _ (blk_lt Q6.out)).trans Q6.out)
           clear c0 c1 gn hb
           have c0 : w7.cell? ⟨q, 0, none⟩ = some (.bool cb) := (blk_cell Q7.out 0).trans rfl
           have c1 : w7.cell? ⟨q, 1, none⟩ = some (.int .u64 cm) := (blk_cell Q7.out 1).trans rfl
           skip)
        | fail)
      all_goals
        go_wp2
        refine bodyPost_ret (v := .int .u64 n) (by simp [results, Tryz.results87, go_sem]) rfl ?_
        exact ⟨n, rfl, GN.out, fun h => absurd h NN.out, H7.out⟩
    · have cc : k1 = 3 ∨ (k1 ≠ 3 ∧ k1 ≠ 1) ∨ (k1 = 1 ∧ 0 ≤ x1) := by omega
      have kk := P1.out.kind
      rcases cc with rfl | ⟨h3, h1⟩ | ⟨rfl, cx⟩
      all_goals
        first
          | (have e3 : (k1 == 3) = false := beq_eq_false_iff_ne.2 h3
             have e1 : (k1 != 1) = true := bne_iff_ne.2 h1
             have NN := Aside0.mk (show ¬ isN wd a from fun h => h3 (P1.out.nan.2 h))
             clear h3 h1)
          | (have e1 : decide (0 ≤ x1) = true := decide_eq_true cx
             have NN := Aside0.mk (show ¬ isN wd a from fun h => absurd (P1.out.nan.2 h) (by decide))
             clear cx)
          | skip
      all_goals
        clear c kk
        go_wp2_with (first
          | (go_at_call 7; refine (C.out.N _).mono ?_
             rintro e w2 ⟨rfl, hb⟩
             obtain ⟨n, hn⟩ : ∃ n, n = cN wd := ⟨_, rfl⟩
             have RR := Aside0.mk (show Good wd n ∧ (isN wd a → n = cN wd) ∧ Below w.heap.size w w2 from ⟨by rw [hn]; exact C.out.cn, fun _ => hn, below_then H1.out H1.out.size hb⟩)
             rw [← hn]
             clear hn hb)
          | (go_at_call 8; refine (cut_calls C.out.wid a _ UA.out).mono ?_
             rintro e w2 ⟨n, rfl, un, hi, hb⟩
             have RR := Aside0.mk (show Good wd n ∧ (isN wd a → n = cN wd) ∧ Below w.heap.size w w2 from ⟨⟨un, .inl (fun h => NN.out (hi.1 h))⟩, fun h => absurd h NN.out, below_then H1.out H1.out.size hb⟩)
             clear un hi hb)
          | fail)
        refine bodyPost_ret (v := .int .u64 n) (by simp [results, Tryz.results87, go_sem]) rfl ?_
        exact ⟨n, rfl, RR.out⟩
set_option maxRecDepth 100000 in
set_option maxHeartbeats 4000000 in
theorem whole_46 {wd : Int} (C : Fl wd) (a : Int) (w : World) (ua : u64 a) : Calls Tryz.prog 46 #[.int .i64 wd, .int .u64 a] w (Ans w wd (isN wd a)) := by
  have MC := Aside0.mk (made_88 C a w ua)
  clear ua C
  go_enter Tryz.func46, Tryz.ntmps46
  go_wp2_with (first
    | (go_at_call 87; (with_reducible refine MC.out.mono ?_)
       rintro e w1 ⟨n, rfl, r⟩
       have RR := Aside0.mk r
       clear r)
    | fail)
  refine bodyPost_ret (v := .int .u64 n) (by simp [results, Tryz.results46, go_sem]) rfl ?_
  exact ⟨n, rfl, RR.out⟩
set_option maxRecDepth 100000 in
set_option maxHeartbeats 4000000 in
theorem whole_47 {wd : Int} (C : Fl wd) (a : Int) (w : World) (ua : u64 a) : Calls Tryz.prog 47 #[.int .i64 wd, .int .u64 a] w (Ans w wd (isN wd a)) := by
  have MC := Aside0.mk (made_89 C a w ua)
  clear ua C
  go_enter Tryz.func47, Tryz.ntmps47
  go_wp2_with (first
    | (go_at_call 87; (with_reducible refine MC.out.mono ?_)
       rintro e w1 ⟨n, rfl, r⟩
       have RR := Aside0.mk r
       clear r)
    | fail)
  refine bodyPost_ret (v := .int .u64 n) (by simp [results, Tryz.results47, go_sem]) rfl ?_
  exact ⟨n, rfl, RR.out⟩
set_option maxRecDepth 100000 in
set_option maxHeartbeats 4000000 in
theorem whole_48 {wd : Int} (C : Fl wd) (a : Int) (w : World) (ua : u64 a) : Calls Tryz.prog 48 #[.int .i64 wd, .int .u64 a] w (Ans w wd (isN wd a)) := by
  have MC := Aside0.mk (made_90 C a w ua)
  clear ua C
  go_enter Tryz.func48, Tryz.ntmps48
  go_wp2_with (first
    | (go_at_call 87; (with_reducible refine MC.out.mono ?_)
       rintro e w1 ⟨n, rfl, r⟩
       have RR := Aside0.mk r
       clear r)
    | fail)
  refine bodyPost_ret (v := .int .u64 n) (by simp [results, Tryz.results48, go_sem]) rfl ?_
  exact ⟨n, rfl, RR.out⟩
set_option maxRecDepth 100000 in
set_option maxHeartbeats 4000000 in
theorem whole_49 {wd : Int} (C : Fl wd) (a : Int) (w : World) (ua : u64 a) : Calls Tryz.prog 49 #[.int .i64 wd, .int .u64 a] w (Ans w wd (isN wd a)) := by
  have MC := Aside0.mk (made_91 C a w ua)
  clear ua C
  go_enter Tryz.func49, Tryz.ntmps49
  go_wp2_with (first
    | (go_at_call 87; (with_reducible refine MC.out.mono ?_)
       rintro e w1 ⟨n, rfl, r⟩
       have RR := Aside0.mk r
       clear r)
    | fail)
  refine bodyPost_ret (v := .int .u64 n) (by simp [results, Tryz.results49, go_sem]) rfl ?_
  exact ⟨n, rfl, RR.out⟩
end Go.Proofs.YticonaahlplbjaaGreatDoor.Tn
