/- round.Pack and round.Narrow at both widths. -/
import Derived.Test.YticonaahlplbjaaGreatDoorTnPack
namespace Go.Proofs.YticonaahlplbjaaGreatDoor.Tn
open Go.RowKit Go.Proofs.YticonaahlplbjaaGreatDoor.PTopNans Go.Proofs.YticonaahlplbjaaGreatDoorW.PrintWords Go.Proofs.YticonaahlplbjaaGreatDoorW.PrintLast Go.Proofs.YticonaahlplbjaaGreatDoorW.PrintMore
set_option linter.unusedVariables false
set_option linter.unusedSimpArgs false
theorem Pack32 (neg mo : Bool) (hi lo ex : Int) (w : World) (u1 : u64 hi) (u2 : u64 lo) (i1 : i64r ex) : Calls Tryz.prog 123 #[.int .i64 32, .bool neg, .agg #[.int .u64 hi, .int .u64 lo], .int .i64 ex, .bool mo] w (GoodP w 32) := by
  by_cases h0 : hi = 0 ∧ lo = 0 ∧ mo = false
  · obtain ⟨a, b, rfl⟩ := h0
    exact Pack_zero 32 23 (-149) 104 neg hi lo ex w u1 u2 i1 (by decide) (fun W => aim32 neg hi lo ex false W) Zero32_good Inf32_good (fun b ex s W a c d => Close32 b ex s W a c d) a b
  by_cases h1 : ex > 1048576
  · exact Pack_inf 32 23 (-149) 104 neg mo hi lo ex w u1 u2 i1 (by decide) (fun W => aim32 neg hi lo ex mo W) Zero32_good Inf32_good (fun b ex s W a c d => Close32 b ex s W a c d) h0 h1
  by_cases h2 : ex < -1048576
  · exact Pack_low 32 23 (-149) 104 neg mo hi lo ex w u1 u2 i1 (by decide) (fun W => aim32 neg hi lo ex mo W) Zero32_good Inf32_good (fun b ex s W a c d => Close32 b ex s W a c d) h0 h2
  cases mo
  · have hs : ((hi == 0) && (lo == 0)) = false := by
      cases hh : ((hi == 0) && (lo == 0))
      · rfl
      · rw [Bool.and_eq_true, beq_iff_eq, beq_iff_eq] at hh
        exact absurd ⟨hh.1, hh.2, rfl⟩ h0
    exact Pack_main_a 32 23 (-149) 104 neg hi lo ex w u1 u2 i1 (by decide) (fun W => aim32 neg hi lo ex false W) Zero32_good Inf32_good (fun b ex s W a c d => Close32 b ex s W a c d) hs (by omega) (by omega)
  · cases hs : ((hi == 0) && (lo == 0))
    · exact Pack_main_b 32 23 (-149) 104 neg hi lo ex w u1 u2 i1 (by decide) (fun W => aim32 neg hi lo ex true W) Zero32_good Inf32_good (fun b ex s W a c d => Close32 b ex s W a c d) hs (by omega) (by omega)
    · exact Pack_main_c 32 23 (-149) 104 neg hi lo ex w u1 u2 i1 (by decide) (fun W => aim32 neg hi lo ex true W) Zero32_good Inf32_good (fun b ex s W a c d => Close32 b ex s W a c d) hs (by omega) (by omega)
theorem Pack64 (neg mo : Bool) (hi lo ex : Int) (w : World) (u1 : u64 hi) (u2 : u64 lo) (i1 : i64r ex) : Calls Tryz.prog 123 #[.int .i64 64, .bool neg, .agg #[.int .u64 hi, .int .u64 lo], .int .i64 ex, .bool mo] w (GoodP w 64) := by
  by_cases h0 : hi = 0 ∧ lo = 0 ∧ mo = false
  · obtain ⟨a, b, rfl⟩ := h0
    exact Pack_zero 64 52 (-1074) 971 neg hi lo ex w u1 u2 i1 (by decide) (fun W => aim64 neg hi lo ex false W) Zero64_good Inf64_good (fun b ex s W a c d => Close64 b ex s W a c d) a b
  by_cases h1 : ex > 1048576
  · exact Pack_inf 64 52 (-1074) 971 neg mo hi lo ex w u1 u2 i1 (by decide) (fun W => aim64 neg hi lo ex mo W) Zero64_good Inf64_good (fun b ex s W a c d => Close64 b ex s W a c d) h0 h1
  by_cases h2 : ex < -1048576
  · exact Pack_low 64 52 (-1074) 971 neg mo hi lo ex w u1 u2 i1 (by decide) (fun W => aim64 neg hi lo ex mo W) Zero64_good Inf64_good (fun b ex s W a c d => Close64 b ex s W a c d) h0 h2
  cases mo
  · have hs : ((hi == 0) && (lo == 0)) = false := by
      cases hh : ((hi == 0) && (lo == 0))
      · rfl
      · rw [Bool.and_eq_true, beq_iff_eq, beq_iff_eq] at hh
        exact absurd ⟨hh.1, hh.2, rfl⟩ h0
    exact Pack_main_a 64 52 (-1074) 971 neg hi lo ex w u1 u2 i1 (by decide) (fun W => aim64 neg hi lo ex false W) Zero64_good Inf64_good (fun b ex s W a c d => Close64 b ex s W a c d) hs (by omega) (by omega)
  · cases hs : ((hi == 0) && (lo == 0))
    · exact Pack_main_b 64 52 (-1074) 971 neg hi lo ex w u1 u2 i1 (by decide) (fun W => aim64 neg hi lo ex true W) Zero64_good Inf64_good (fun b ex s W a c d => Close64 b ex s W a c d) hs (by omega) (by omega)
    · exact Pack_main_c 64 52 (-1074) 971 neg hi lo ex w u1 u2 i1 (by decide) (fun W => aim64 neg hi lo ex true W) Zero64_good Inf64_good (fun b ex s W a c d => Close64 b ex s W a c d) hs (by omega) (by omega)
set_option maxRecDepth 100000 in
set_option maxHeartbeats 4000000 in
theorem Narrow32 (neg : Bool) (k ex s : Int) (w : World) (hk : k = 0 ∨ k = 1 ∨ k = 2 ∨ k = 3) (us : u64 s) (ix : i64r ex) : Calls Tryz.prog 104 #[.int .i64 32, .agg #[.bool neg, .int .i64 k, .int .i64 ex, .int .u64 s]] w (GoodP w 32) := by
  have q0 := heap_alloc_new w (.cells #[.bool neg, .int .i64 k, .int .i64 ex, .int .u64 s] 46)
  have HB := Aside0.mk (below_alloc (Below.refl w.heap.size w) (.cells #[.bool neg, .int .i64 k, .int .i64 ex, .int .u64 s] 46))
  have Q0 := Aside0.mk q0
  have UU := Aside0.mk (And.intro us ix)
  have c0 := (blk_cell q0 0).trans rfl
  have c1 := (blk_cell q0 1).trans rfl
  have c2 := (blk_cell q0 2).trans rfl
  have c3 := (blk_cell q0 3).trans rfl
  clear q0 us ix
  rcases hk with rfl | rfl | rfl | rfl
  all_goals
    go_enter Tryz.func104, Tryz.ntmps104
    go_wp2_with (first
      | (go_at_call 92; refine (Zero32_good _ _).mono ?_
         rintro e w1 ⟨n, rfl, gn, hb⟩
         have GN := Aside0.mk gn
         have H1 := Aside0.mk (below_then HB.out HB.out.size hb)
         clear gn hb)
      | (go_at_call 93; refine (Inf32_good _ _).mono ?_
         rintro e w1 ⟨n, rfl, gn, hb⟩
         have GN := Aside0.mk gn
         have H1 := Aside0.mk (below_then HB.out HB.out.size hb)
         clear gn hb)
      | (go_at_call 7; refine (Nan32 _).mono ?_
         rintro e w1 ⟨rfl, hb⟩
         obtain ⟨n, hn⟩ : ∃ n, n = cN 32 := ⟨_, rfl⟩
         have GN := Aside0.mk (show Good 32 n by rw [hn]; exact cN32_good)
         rw [← hn]
         have H1 := Aside0.mk (below_then HB.out HB.out.size hb)
         clear hb hn)
      | fail)
    try
      go_region_held (fun W => W.cell? ⟨w.heap.size, 0, none⟩ = some (.bool neg) ∧ W.cell? ⟨w.heap.size, 2, none⟩ = some (.int .i64 ex) ∧ W.cell? ⟨w.heap.size, 3, none⟩ = some (.int .u64 s)) (go_keep) (first
        | (go_at_call 124; refine (Of_calls s _).mono ?_
           rintro e w1 ⟨rfl, hb⟩
           have q1 := (hb.block _ (blk_lt Q0.out)).trans Q0.out
           have HB1 := Aside0.mk (below_then (below_drew HB.out) (below_drew HB.out).size hb)
           have Q1 := Aside0.mk q1
           clear hb c0 c1 c2 c3
           have c0 := (blk_cell q1 0).trans rfl
           have c2 := (blk_cell q1 2).trans rfl
           have c3 := (blk_cell q1 3).trans rfl
           clear q1)
        | (go_at_call 123; refine (Pack32 neg false 0 s ex _ u64_0 UU.out.1 UU.out.2).mono ?_
           rintro e w2 ⟨n, rfl, gn, hb⟩
           have q2 := (hb.block _ (blk_lt Q1.out)).trans Q1.out
           have GN := Aside0.mk gn
           have H1 := Aside0.mk (below_then HB1.out HB1.out.size hb)
           clear gn hb c0 c2 c3
           have c0 := (blk_cell q2 0).trans rfl
           have c2 := (blk_cell q2 2).trans rfl
           have c3 := (blk_cell q2 3).trans rfl
           clear q2)
        | fail)
      go_wp2
    refine bodyPost_ret (v := .int .u64 n) (by simp [results, Tryz.results104, go_sem]) rfl ?_
    exact ⟨n, rfl, GN.out, H1.out⟩
set_option maxRecDepth 100000 in
set_option maxHeartbeats 4000000 in
theorem Narrow64 (neg : Bool) (k ex s : Int) (w : World) (hk : k = 0 ∨ k = 1 ∨ k = 2 ∨ k = 3) (us : u64 s) (ix : i64r ex) : Calls Tryz.prog 104 #[.int .i64 64, .agg #[.bool neg, .int .i64 k, .int .i64 ex, .int .u64 s]] w (GoodP w 64) := by
  have q0 := heap_alloc_new w (.cells #[.bool neg, .int .i64 k, .int .i64 ex, .int .u64 s] 46)
  have HB := Aside0.mk (below_alloc (Below.refl w.heap.size w) (.cells #[.bool neg, .int .i64 k, .int .i64 ex, .int .u64 s] 46))
  have Q0 := Aside0.mk q0
  have UU := Aside0.mk (And.intro us ix)
  have c0 := (blk_cell q0 0).trans rfl
  have c1 := (blk_cell q0 1).trans rfl
  have c2 := (blk_cell q0 2).trans rfl
  have c3 := (blk_cell q0 3).trans rfl
  clear q0 us ix
  rcases hk with rfl | rfl | rfl | rfl
  all_goals
    go_enter Tryz.func104, Tryz.ntmps104
    go_wp2_with (first
      | (go_at_call 92; refine (Zero64_good _ _).mono ?_
         rintro e w1 ⟨n, rfl, gn, hb⟩
         have GN := Aside0.mk gn
         have H1 := Aside0.mk (below_then HB.out HB.out.size hb)
         clear gn hb)
      | (go_at_call 93; refine (Inf64_good _ _).mono ?_
         rintro e w1 ⟨n, rfl, gn, hb⟩
         have GN := Aside0.mk gn
         have H1 := Aside0.mk (below_then HB.out HB.out.size hb)
         clear gn hb)
      | (go_at_call 7; refine (Nan64 _).mono ?_
         rintro e w1 ⟨rfl, hb⟩
         obtain ⟨n, hn⟩ : ∃ n, n = cN 64 := ⟨_, rfl⟩
         have GN := Aside0.mk (show Good 64 n by rw [hn]; exact cN64_good)
         rw [← hn]
         have H1 := Aside0.mk (below_then HB.out HB.out.size hb)
         clear hb hn)
      | fail)
    try
      go_region_held (fun W => W.cell? ⟨w.heap.size, 0, none⟩ = some (.bool neg) ∧ W.cell? ⟨w.heap.size, 2, none⟩ = some (.int .i64 ex) ∧ W.cell? ⟨w.heap.size, 3, none⟩ = some (.int .u64 s)) (go_keep) (first
        | (go_at_call 124; refine (Of_calls s _).mono ?_
           rintro e w1 ⟨rfl, hb⟩
           have q1 := (hb.block _ (blk_lt Q0.out)).trans Q0.out
           have HB1 := Aside0.mk (below_then (below_drew HB.out) (below_drew HB.out).size hb)
           have Q1 := Aside0.mk q1
           clear hb c0 c1 c2 c3
           have c0 := (blk_cell q1 0).trans rfl
           have c2 := (blk_cell q1 2).trans rfl
           have c3 := (blk_cell q1 3).trans rfl
           clear q1)
        | (go_at_call 123; refine (Pack64 neg false 0 s ex _ u64_0 UU.out.1 UU.out.2).mono ?_
           rintro e w2 ⟨n, rfl, gn, hb⟩
           have q2 := (hb.block _ (blk_lt Q1.out)).trans Q1.out
           have GN := Aside0.mk gn
           have H1 := Aside0.mk (below_then HB1.out HB1.out.size hb)
           clear gn hb c0 c2 c3
           have c0 := (blk_cell q2 0).trans rfl
           have c2 := (blk_cell q2 2).trans rfl
           have c3 := (blk_cell q2 3).trans rfl
           clear q2)
        | fail)
      go_wp2
    refine bodyPost_ret (v := .int .u64 n) (by simp [results, Tryz.results104, go_sem]) rfl ?_
    exact ⟨n, rfl, GN.out, H1.out⟩
end Go.Proofs.YticonaahlplbjaaGreatDoor.Tn
