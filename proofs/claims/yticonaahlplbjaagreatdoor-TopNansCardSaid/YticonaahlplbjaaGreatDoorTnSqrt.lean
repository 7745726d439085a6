/- radix.finite, radix.Sqrt. -/
import Derived.Test.YticonaahlplbjaaGreatDoorTnSpread
import Derived.Test.YticonaahlplbjaaGreatDoorTnRoot
namespace Go.Proofs.YticonaahlplbjaaGreatDoor.Tn
open Go.RowKit Go.Proofs.YticonaahlplbjaaGreatDoor.PTopNans Go.Proofs.YticonaahlplbjaaGreatDoorW.PrintWords Go.Proofs.YticonaahlplbjaaGreatDoorW.PrintLast Go.Proofs.YticonaahlplbjaaGreatDoorW.PrintMore
set_option linter.unusedVariables false
set_option linter.unusedSimpArgs false
set_option maxRecDepth 100000 in
set_option maxHeartbeats 4000000 in
theorem radix_finite {wd : Int} (C : Fl wd) (neg : Bool) (k ex s : Int) (w : World) (us : u64 s) (ix : i64r ex) : Calls Tryz.prog 94 #[.int .i64 wd, .agg #[.bool neg, .int .i64 k, .int .i64 ex, .int .u64 s]] w (GoodP w wd) := by
  have q0 := heap_alloc_new w (.cells #[.bool neg, .int .i64 k, .int .i64 ex, .int .u64 s] 46)
  have HB := Aside0.mk (below_alloc (Below.refl w.heap.size w) (.cells #[.bool neg, .int .i64 k, .int .i64 ex, .int .u64 s] 46))
  have c0 : (w.alloc (.cells #[.bool neg, .int .i64 k, .int .i64 ex, .int .u64 s] 46)).cell? ⟨w.heap.size, 0, none⟩ = some (.bool neg) := (blk_cell q0 0).trans rfl
  have c1 : (w.alloc (.cells #[.bool neg, .int .i64 k, .int .i64 ex, .int .u64 s] 46)).cell? ⟨w.heap.size, 1, none⟩ = some (.int .i64 k) := (blk_cell q0 1).trans rfl
  have c2 : (w.alloc (.cells #[.bool neg, .int .i64 k, .int .i64 ex, .int .u64 s] 46)).cell? ⟨w.heap.size, 2, none⟩ = some (.int .i64 ex) := (blk_cell q0 2).trans rfl
  have c3 : (w.alloc (.cells #[.bool neg, .int .i64 k, .int .i64 ex, .int .u64 s] 46)).cell? ⟨w.heap.size, 3, none⟩ = some (.int .u64 s) := (blk_cell q0 3).trans rfl
  have C := Aside0.mk C
  have SC := Aside0.mk (fun W => spread_calls neg k ex s W us ix)
  clear q0 us ix
  go_enter Tryz.func94, Tryz.ntmps94
  go_upto_region 2 with (first
    | (go_at_call 125; (with_reducible refine (SC.out _).mono ?_)
       rintro e w1 ⟨h, l, x, rfl, v1, v2, v3, hb⟩
       have d := heap_alloc_new w1 (.cells #[.int .u64 h, .int .u64 l] 98)
       have h1 := below_then HB.out HB.out.size hb
       have H1 := Aside0.mk (h1.alloc h1.size (.cells #[.int .u64 h, .int .u64 l] 98))
       have d0 : (w1.alloc (.cells #[.int .u64 h, .int .u64 l] 98)).cell? ⟨w1.heap.size, 0, none⟩ = some (.int .u64 h) := (blk_cell d 0).trans rfl
       have d1 : (w1.alloc (.cells #[.int .u64 h, .int .u64 l] 98)).cell? ⟨w1.heap.size, 1, none⟩ = some (.int .u64 l) := (blk_cell d 1).trans rfl
       clear c0 c1 c2 c3 hb d h1 v1 v2 v3)
    | fail)
  go_wp2_with (first
    | (go_at_call 126; (with_reducible refine (Root_calls h l _).mono ?_)
       rintro e w2 ⟨r, rest, rfl, v1, hb⟩
       have VR := Aside0.mk v1
       have H2 := Aside0.mk (below_then H1.out H1.out.size hb)
       clear d0 d1 hb v1)
    | (go_at_call 124; (with_reducible refine (Of_calls r _).mono ?_)
       rintro e w3 ⟨rfl, hb⟩
       have H3 := Aside0.mk (below_then H2.out H2.out.size hb)
       clear hb)
    | (go_at_call 123; refine (C.out.P _ _ _ _ _ _ u64_0 VR.out (i64r_any _)).mono ?_
       rintro e w4 ⟨n, rfl, gn, hb⟩
       have GN := Aside0.mk gn
       have H4 := Aside0.mk (below_then H3.out H3.out.size hb)
       clear gn hb)
    | fail)
  refine bodyPost_ret (v := .int .u64 n) (by simp [results, Tryz.results94, go_sem]) rfl ?_
  exact ⟨n, rfl, GN.out, H4.out⟩
set_option maxRecDepth 100000 in
set_option maxHeartbeats 4000000 in
theorem radix_Sqrt {wd : Int} (C : Fl wd) (a : Int) (w : World) (ua : u64 a) : Calls Tryz.prog 50 #[.int .i64 wd, .int .u64 a] w (Ans w wd (isN wd a)) := by
  have UA := Aside0.mk ua
  have C := Aside0.mk C
  have kd : (wd != 32) = false ∨ ((wd != 32) = true ∧ (wd != 64) = false) := by rcases C.out.wid with h | h <;> simp [h]
  clear ua
  rcases kd with k1 | ⟨k1, k2⟩
  all_goals
    go_enter Tryz.func50, Tryz.ntmps50
    go_upto_region 4 with (first
      | (go_at_call 23; refine (C.out.O a _ UA.out).mono ?_
         rintro e w1 ⟨n1, k1, x1, s1, rfl, p1, hb⟩
         have P1 := Aside0.mk p1
         have q := heap_alloc_new w1 (.cells #[.bool n1, .int .i64 k1, .int .i64 x1, .int .u64 s1] 46)
         have H1 := Aside0.mk (hb.alloc hb.size (.cells #[.bool n1, .int .i64 k1, .int .i64 x1, .int .u64 s1] 46))
         have c0 : (w1.alloc (.cells #[.bool n1, .int .i64 k1, .int .i64 x1, .int .u64 s1] 46)).cell? ⟨w1.heap.size, 0, none⟩ = some (.bool n1) := (blk_cell q 0).trans rfl
         have c1 : (w1.alloc (.cells #[.bool n1, .int .i64 k1, .int .i64 x1, .int .u64 s1] 46)).cell? ⟨w1.heap.size, 1, none⟩ = some (.int .i64 k1) := (blk_cell q 1).trans rfl
         have c2 : (w1.alloc (.cells #[.bool n1, .int .i64 k1, .int .i64 x1, .int .u64 s1] 46)).cell? ⟨w1.heap.size, 2, none⟩ = some (.int .i64 x1) := (blk_cell q 2).trans rfl
         have c3 : (w1.alloc (.cells #[.bool n1, .int .i64 k1, .int .i64 x1, .int .u64 s1] 46)).cell? ⟨w1.heap.size, 3, none⟩ = some (.int .u64 s1) := (blk_cell q 3).trans rfl
         clear p1 hb q)
      | fail)
    obtain ⟨W1, hW1⟩ : ∃ W, W = w1.alloc (.cells #[.bool n1, .int .i64 k1, .int .i64 x1, .int .u64 s1] 46) := ⟨_, rfl⟩
    rw [← hW1] at H1 c0 c1 c2 c3 ⊢
    clear hW1
    rcases (parts_rng P1.out).1 with rfl | rfl | rfl | rfl <;> cases n1
    all_goals
      go_wp2_with (first
        | (go_at_call 92; refine (C.out.Z _ _).mono ?_
           rintro e w2 ⟨n, rfl, gn, hb⟩
           have RR := Aside0.mk (show Good wd n ∧ (isN wd a → n = cN wd) ∧ Below w.heap.size w w2 from ⟨gn, fun h => absurd (P1.out.nan.2 h) (by decide), below_then H1.out H1.out.size hb⟩)
           clear gn hb)
        | (go_at_call 93; refine (C.out.I _ _).mono ?_
           rintro e w2 ⟨n, rfl, gn, hb⟩
           have RR := Aside0.mk (show Good wd n ∧ (isN wd a → n = cN wd) ∧ Below w.heap.size w w2 from ⟨gn, fun h => absurd (P1.out.nan.2 h) (by decide), below_then H1.out H1.out.size hb⟩)
           clear gn hb)
        | (go_at_call 7; refine (C.out.N _).mono ?_
           rintro e w2 ⟨rfl, hb⟩
           obtain ⟨n, hn⟩ : ∃ n, n = cN wd := ⟨_, rfl⟩
           have RR := Aside0.mk (show Good wd n ∧ (isN wd a → n = cN wd) ∧ Below w.heap.size w w2 from ⟨by rw [hn]; exact C.out.cn, fun _ => hn, below_then H1.out H1.out.size hb⟩)
           rw [← hn]
           clear hn hb)
        | (go_at_call 94; refine (radix_finite C.out _ _ x1 s1 _ (parts_rng P1.out).2.2 (parts_rng P1.out).2.1).mono ?_
           rintro e w2 ⟨n, rfl, gn, hb⟩
           have RR := Aside0.mk (show Good wd n ∧ (isN wd a → n = cN wd) ∧ Below w.heap.size w w2 from ⟨gn, fun h => absurd (P1.out.nan.2 h) (by decide), below_then H1.out H1.out.size hb⟩)
           clear gn hb)
        | fail)
    all_goals
      refine bodyPost_ret (v := .int .u64 n) (by simp [results, Tryz.results50, go_sem]) rfl ?_
      exact ⟨n, rfl, RR.out⟩
end Go.Proofs.YticonaahlplbjaaGreatDoor.Tn
