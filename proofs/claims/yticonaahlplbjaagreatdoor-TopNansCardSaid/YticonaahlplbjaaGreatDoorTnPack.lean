/- round.Pack: a good float. -/
import Derived.Test.YticonaahlplbjaaGreatDoorTnRClose
namespace Go.Proofs.YticonaahlplbjaaGreatDoor.Tn
open Go.RowKit Go.Proofs.YticonaahlplbjaaGreatDoor.PTopNans Go.Proofs.YticonaahlplbjaaGreatDoorW.PrintWords Go.Proofs.YticonaahlplbjaaGreatDoorW.PrintLast Go.Proofs.YticonaahlplbjaaGreatDoorW.PrintMore
set_option linter.unusedVariables false
set_option linter.unusedSimpArgs false
theorem eq98 (x y p q : Int) (W : World) : (binOp .eql 98 (.agg #[.int .u64 x, .int .u64 p]) (.agg #[.int .u64 y, .int .u64 q])).run Tryz.prog W = .ok (.bool ((x == y) && (p == q))) W := by
  have h : (Op.equalIn 10000 98 (.agg #[.int .u64 x, .int .u64 p]) (.agg #[.int .u64 y, .int .u64 q])).run Tryz.prog W = .ok ((x == y) && (p == q)) W :=
    eqA_of Tryz.underlying98 (by kernel_rfl) (eqf_cons (a := .int .u64 x) (b := .int .u64 y) rfl (by kernel_rfl) (by kernel_rfl) (run_equalIn_int W _ _ .u64 .u64 x y (by kernel_rfl)) (eqf_last (a := .int .u64 p) (b := .int .u64 q) rfl (by kernel_rfl) (by kernel_rfl) (run_equalIn_int W _ _ .u64 .u64 p q (by kernel_rfl))))
  rw [run_eql_struct, h]
  rfl
theorem aim32 (neg : Bool) (hi lo ex : Int) (mo : Bool) (w : World) : Calls Tryz.prog 137 #[.int .i64 32, .bool neg, .agg #[.int .u64 hi, .int .u64 lo, .int .i64 ex, .bool mo]] w fun e w' => e = .returned (.tuple #[.agg #[.int .u64 hi, .int .u64 lo, .int .i64 ex, .bool mo, .int .i64 32, .int .i64 23, .int .i64 (-149), .int .i64 104, .bool neg], .bool true]) ∧ Below w.heap.size w w' :=
  round_aim.calls 32 neg hi lo ex mo hi lo ex mo 32 23 (-149) 104 neg true w (by unfold round_aim.f; rw [show shape_Fields.f 32 = some (8, 23) by decide +kernel]; simp only [Option.bind_some]; rw [if_neg (by decide), if_pos (by decide +kernel), if_pos (by decide), show wrap64 (wrap64 (2 - shl .i64 1 (wrap64 ((8 : Int) - 1))) - 23) = -149 by decide +kernel, show wrap64 (wrap64 (-149 + shl .i64 1 (8 : Int)) - 3) = 104 by decide +kernel])
theorem aim64 (neg : Bool) (hi lo ex : Int) (mo : Bool) (w : World) : Calls Tryz.prog 137 #[.int .i64 64, .bool neg, .agg #[.int .u64 hi, .int .u64 lo, .int .i64 ex, .bool mo]] w fun e w' => e = .returned (.tuple #[.agg #[.int .u64 hi, .int .u64 lo, .int .i64 ex, .bool mo, .int .i64 64, .int .i64 52, .int .i64 (-1074), .int .i64 971, .bool neg], .bool true]) ∧ Below w.heap.size w w' :=
  round_aim.calls 64 neg hi lo ex mo hi lo ex mo 64 52 (-1074) 971 neg true w (by unfold round_aim.f; rw [show shape_Fields.f 64 = some (11, 52) by decide +kernel]; simp only [Option.bind_some]; rw [if_neg (by decide), if_pos (by decide +kernel), if_pos (by decide), show wrap64 (wrap64 (2 - shl .i64 1 (wrap64 ((11 : Int) - 1))) - 52) = -1074 by decide +kernel, show wrap64 (wrap64 (-1074 + shl .i64 1 (11 : Int)) - 3) = 971 by decide +kernel])
set_option maxRecDepth 100000 in
set_option maxHeartbeats 4000000 in
theorem Pack_zero (wd f low high : Int) (neg : Bool) (hi lo ex : Int) (w : World) (u1 : u64 hi) (u2 : u64 lo) (i1 : i64r ex) (f0 : 0 ≤ f)
    (AC : ∀ W, Calls Tryz.prog 137 #[.int .i64 wd, .bool neg, .agg #[.int .u64 hi, .int .u64 lo, .int .i64 ex, .bool false]] W fun e w' => e = .returned (.tuple #[.agg #[.int .u64 hi, .int .u64 lo, .int .i64 ex, .bool false, .int .i64 wd, .int .i64 f, .int .i64 low, .int .i64 high, .bool neg], .bool true]) ∧ Below W.heap.size W w')
    (ZC : ∀ b W, Calls Tryz.prog 92 #[.int .i64 wd, .bool b] W (GoodP W wd)) (IC : ∀ b W, Calls Tryz.prog 93 #[.int .i64 wd, .bool b] W (GoodP W wd))
    (CC : ∀ b ex s W, ex ≤ high → -9223372036854775808 ≤ ex → u64 s → Calls Tryz.prog 156 #[.int .i64 wd, .agg #[.bool b, .int .i64 1, .int .i64 ex, .int .u64 s]] W fun e w' => ∃ n er, e = .returned (.tuple #[.int .u64 n, .int .i64 er]) ∧ Good wd n ∧ Below W.heap.size W w') (h0 : hi = 0) (h1 : lo = 0) : Calls Tryz.prog 123 #[.int .i64 wd, .bool neg, .agg #[.int .u64 hi, .int .u64 lo], .int .i64 ex, .bool false] w (GoodP w wd) := by
  have d0 : (hi == 0) = true := beq_iff_eq.2 h0
  have d1 : (lo == 0) = true := beq_iff_eq.2 h1
  clear h0 h1
  have AC := Aside0.mk AC
  have ZC := Aside0.mk ZC
  have IC := Aside0.mk IC
  have CC := Aside0.mk CC
  have eq := eq98
  have eg : Tryz.prog.eqGuardType Tryz.prog.depth 98 = false := by kernel_rfl
  have q0 := heap_alloc_new w (.cells #[.int .u64 hi, .int .u64 lo] 98)
  have Q0 := Aside0.mk q0
  have B0 := Aside0.mk (below_alloc (Below.refl w.heap.size w) (.cells #[.int .u64 hi, .int .u64 lo] 98))
  clear q0
  go_enter Tryz.func123, Tryz.ntmps123
  go_wp2_with (first
    | (go_at_call 137; refine (AC.out _).mono ?_
       rintro e w1 ⟨rfl, hb⟩
       have qb := (hb.block _ (blk_lt Q0.out)).trans Q0.out
       have HB := Aside0.mk (below_then B0.out B0.out.size hb)
       have QB := Aside0.mk ((heap_alloc_old (.cells #[.int .u64 hi, .int .u64 lo, .int .i64 ex, .bool false, .int .i64 wd, .int .i64 f, .int .i64 low, .int .i64 high, .bool neg] 118) (blk_lt qb)).trans qb)
       have QG := Aside0.mk (heap_alloc_new w1 (.cells #[.int .u64 hi, .int .u64 lo, .int .i64 ex, .bool false, .int .i64 wd, .int .i64 f, .int .i64 low, .int .i64 high, .bool neg] 118))
       have cb0 := (blk_cell QB.out 0).trans rfl
       have cb1 := (blk_cell QB.out 1).trans rfl
       clear hb qb)
    | (go_at_call 92; refine (ZC.out _ _).mono ?_
       rintro e w2 ⟨n, rfl, gn, hb⟩
       have GN := Aside0.mk gn
       have H2 := Aside0.mk (below_then (HB.out.alloc HB.out.size _) (HB.out.alloc HB.out.size _).size hb)
       clear gn hb)
    | fail)
  all_goals
    refine bodyPost_ret (v := .int .u64 n) (by simp [results, Tryz.results123, go_sem]) rfl ?_
    exact ⟨n, rfl, GN.out, H2.out⟩
set_option maxRecDepth 100000 in
set_option maxHeartbeats 4000000 in
theorem Pack_inf (wd f low high : Int) (neg mo : Bool) (hi lo ex : Int) (w : World) (u1 : u64 hi) (u2 : u64 lo) (i1 : i64r ex) (f0 : 0 ≤ f)
    (AC : ∀ W, Calls Tryz.prog 137 #[.int .i64 wd, .bool neg, .agg #[.int .u64 hi, .int .u64 lo, .int .i64 ex, .bool mo]] W fun e w' => e = .returned (.tuple #[.agg #[.int .u64 hi, .int .u64 lo, .int .i64 ex, .bool mo, .int .i64 wd, .int .i64 f, .int .i64 low, .int .i64 high, .bool neg], .bool true]) ∧ Below W.heap.size W w')
    (ZC : ∀ b W, Calls Tryz.prog 92 #[.int .i64 wd, .bool b] W (GoodP W wd)) (IC : ∀ b W, Calls Tryz.prog 93 #[.int .i64 wd, .bool b] W (GoodP W wd))
    (CC : ∀ b ex s W, ex ≤ high → -9223372036854775808 ≤ ex → u64 s → Calls Tryz.prog 156 #[.int .i64 wd, .agg #[.bool b, .int .i64 1, .int .i64 ex, .int .u64 s]] W fun e w' => ∃ n er, e = .returned (.tuple #[.int .u64 n, .int .i64 er]) ∧ Good wd n ∧ Below W.heap.size W w') (h0 : ¬ (hi = 0 ∧ lo = 0 ∧ mo = false)) (hx : ex > 1048576) : Calls Tryz.prog 123 #[.int .i64 wd, .bool neg, .agg #[.int .u64 hi, .int .u64 lo], .int .i64 ex, .bool mo] w (GoodP w wd) := by
  have d1 : decide (ex > 1048576) = true := decide_eq_true hx
  clear hx
  obtain ⟨s, hs, hm⟩ : ∃ s, ((hi == 0) && (lo == 0)) = s ∧ (s = true → mo = true) := ⟨_, rfl, by
    intro h
    rw [Bool.and_eq_true, beq_iff_eq, beq_iff_eq] at h
    cases mo
    · exact absurd ⟨h.1, h.2, rfl⟩ h0
    · rfl⟩
  clear h0
  have cs : s = false ∨ (s = true ∧ mo = true) := by
    cases s
    · exact .inl rfl
    · exact .inr ⟨rfl, hm rfl⟩
  clear hm
  have AC := Aside0.mk AC
  have ZC := Aside0.mk ZC
  have IC := Aside0.mk IC
  have CC := Aside0.mk CC
  have eq := eq98
  have eg : Tryz.prog.eqGuardType Tryz.prog.depth 98 = false := by kernel_rfl
  have q0 := heap_alloc_new w (.cells #[.int .u64 hi, .int .u64 lo] 98)
  have Q0 := Aside0.mk q0
  have B0 := Aside0.mk (below_alloc (Below.refl w.heap.size w) (.cells #[.int .u64 hi, .int .u64 lo] 98))
  clear q0
  rcases cs with rfl | ⟨rfl, rfl⟩
  · go_enter Tryz.func123, Tryz.ntmps123
    go_wp2_with (first
      | (go_at_call 137; refine (AC.out _).mono ?_
         rintro e w1 ⟨rfl, hb⟩
         have qb := (hb.block _ (blk_lt Q0.out)).trans Q0.out
         have HB := Aside0.mk (below_then B0.out B0.out.size hb)
         have QB := Aside0.mk ((heap_alloc_old (.cells #[.int .u64 hi, .int .u64 lo, .int .i64 ex, .bool mo, .int .i64 wd, .int .i64 f, .int .i64 low, .int .i64 high, .bool neg] 118) (blk_lt qb)).trans qb)
         have QG := Aside0.mk (heap_alloc_new w1 (.cells #[.int .u64 hi, .int .u64 lo, .int .i64 ex, .bool mo, .int .i64 wd, .int .i64 f, .int .i64 low, .int .i64 high, .bool neg] 118))
         have cb0 := (blk_cell QB.out 0).trans rfl
         have cb1 := (blk_cell QB.out 1).trans rfl
         clear hb qb)
      | (go_at_call 93; refine (IC.out _ _).mono ?_
         rintro e w2 ⟨n, rfl, gn, hb⟩
         have GN := Aside0.mk gn
         have H2 := Aside0.mk (below_then (HB.out.alloc HB.out.size _) (HB.out.alloc HB.out.size _).size hb)
         clear gn hb)
      | fail)
    all_goals
      refine bodyPost_ret (v := .int .u64 n) (by simp [results, Tryz.results123, go_sem]) rfl ?_
      exact ⟨n, rfl, GN.out, H2.out⟩
  · go_enter Tryz.func123, Tryz.ntmps123
    go_wp2_with (first
      | (go_at_call 137; refine (AC.out _).mono ?_
         rintro e w1 ⟨rfl, hb⟩
         have qb := (hb.block _ (blk_lt Q0.out)).trans Q0.out
         have HB := Aside0.mk (below_then B0.out B0.out.size hb)
         have QB := Aside0.mk ((heap_alloc_old (.cells #[.int .u64 hi, .int .u64 lo, .int .i64 ex, .bool true, .int .i64 wd, .int .i64 f, .int .i64 low, .int .i64 high, .bool neg] 118) (blk_lt qb)).trans qb)
         have QG := Aside0.mk (heap_alloc_new w1 (.cells #[.int .u64 hi, .int .u64 lo, .int .i64 ex, .bool true, .int .i64 wd, .int .i64 f, .int .i64 low, .int .i64 high, .bool neg] 118))
         have cb0 := (blk_cell QB.out 0).trans rfl
         have cb1 := (blk_cell QB.out 1).trans rfl
         clear hb qb)
      | (go_at_call 93; refine (IC.out _ _).mono ?_
         rintro e w2 ⟨n, rfl, gn, hb⟩
         have GN := Aside0.mk gn
         have H2 := Aside0.mk (below_then (HB.out.alloc HB.out.size _) (HB.out.alloc HB.out.size _).size hb)
         clear gn hb)
      | fail)
    all_goals
      refine bodyPost_ret (v := .int .u64 n) (by simp [results, Tryz.results123, go_sem]) rfl ?_
      exact ⟨n, rfl, GN.out, H2.out⟩
set_option maxRecDepth 100000 in
set_option maxHeartbeats 4000000 in
theorem Pack_low (wd f low high : Int) (neg mo : Bool) (hi lo ex : Int) (w : World) (u1 : u64 hi) (u2 : u64 lo) (i1 : i64r ex) (f0 : 0 ≤ f)
    (AC : ∀ W, Calls Tryz.prog 137 #[.int .i64 wd, .bool neg, .agg #[.int .u64 hi, .int .u64 lo, .int .i64 ex, .bool mo]] W fun e w' => e = .returned (.tuple #[.agg #[.int .u64 hi, .int .u64 lo, .int .i64 ex, .bool mo, .int .i64 wd, .int .i64 f, .int .i64 low, .int .i64 high, .bool neg], .bool true]) ∧ Below W.heap.size W w')
    (ZC : ∀ b W, Calls Tryz.prog 92 #[.int .i64 wd, .bool b] W (GoodP W wd)) (IC : ∀ b W, Calls Tryz.prog 93 #[.int .i64 wd, .bool b] W (GoodP W wd))
    (CC : ∀ b ex s W, ex ≤ high → -9223372036854775808 ≤ ex → u64 s → Calls Tryz.prog 156 #[.int .i64 wd, .agg #[.bool b, .int .i64 1, .int .i64 ex, .int .u64 s]] W fun e w' => ∃ n er, e = .returned (.tuple #[.int .u64 n, .int .i64 er]) ∧ Good wd n ∧ Below W.heap.size W w') (h0 : ¬ (hi = 0 ∧ lo = 0 ∧ mo = false)) (hx : ex < -1048576) : Calls Tryz.prog 123 #[.int .i64 wd, .bool neg, .agg #[.int .u64 hi, .int .u64 lo], .int .i64 ex, .bool mo] w (GoodP w wd) := by
  have d1 : decide (ex > 1048576) = false := decide_eq_false (by omega)
  have d2 : decide (ex < -1048576) = true := decide_eq_true hx
  clear hx
  obtain ⟨s, hs, hm⟩ : ∃ s, ((hi == 0) && (lo == 0)) = s ∧ (s = true → mo = true) := ⟨_, rfl, by
    intro h
    rw [Bool.and_eq_true, beq_iff_eq, beq_iff_eq] at h
    cases mo
    · exact absurd ⟨h.1, h.2, rfl⟩ h0
    · rfl⟩
  clear h0
  have cs : s = false ∨ (s = true ∧ mo = true) := by
    cases s
    · exact .inl rfl
    · exact .inr ⟨rfl, hm rfl⟩
  clear hm
  have AC := Aside0.mk AC
  have ZC := Aside0.mk ZC
  have IC := Aside0.mk IC
  have CC := Aside0.mk CC
  have eq := eq98
  have eg : Tryz.prog.eqGuardType Tryz.prog.depth 98 = false := by kernel_rfl
  have q0 := heap_alloc_new w (.cells #[.int .u64 hi, .int .u64 lo] 98)
  have Q0 := Aside0.mk q0
  have B0 := Aside0.mk (below_alloc (Below.refl w.heap.size w) (.cells #[.int .u64 hi, .int .u64 lo] 98))
  clear q0
  rcases cs with rfl | ⟨rfl, rfl⟩
  · go_enter Tryz.func123, Tryz.ntmps123
    go_wp2_with (first
      | (go_at_call 137; refine (AC.out _).mono ?_
         rintro e w1 ⟨rfl, hb⟩
         have qb := (hb.block _ (blk_lt Q0.out)).trans Q0.out
         have HB := Aside0.mk (below_then B0.out B0.out.size hb)
         have QB := Aside0.mk ((heap_alloc_old (.cells #[.int .u64 hi, .int .u64 lo, .int .i64 ex, .bool mo, .int .i64 wd, .int .i64 f, .int .i64 low, .int .i64 high, .bool neg] 118) (blk_lt qb)).trans qb)
         have QG := Aside0.mk (heap_alloc_new w1 (.cells #[.int .u64 hi, .int .u64 lo, .int .i64 ex, .bool mo, .int .i64 wd, .int .i64 f, .int .i64 low, .int .i64 high, .bool neg] 118))
         have cb0 := (blk_cell QB.out 0).trans rfl
         have cb1 := (blk_cell QB.out 1).trans rfl
         clear hb qb)
      | (go_at_call 92; refine (ZC.out _ _).mono ?_
         rintro e w2 ⟨n, rfl, gn, hb⟩
         have GN := Aside0.mk gn
         have H2 := Aside0.mk (below_then (HB.out.alloc HB.out.size _) (HB.out.alloc HB.out.size _).size hb)
         clear gn hb)
      | fail)
    all_goals
      refine bodyPost_ret (v := .int .u64 n) (by simp [results, Tryz.results123, go_sem]) rfl ?_
      exact ⟨n, rfl, GN.out, H2.out⟩
  · go_enter Tryz.func123, Tryz.ntmps123
    go_wp2_with (first
      | (go_at_call 137; refine (AC.out _).mono ?_
         rintro e w1 ⟨rfl, hb⟩
         have qb := (hb.block _ (blk_lt Q0.out)).trans Q0.out
         have HB := Aside0.mk (below_then B0.out B0.out.size hb)
         have QB := Aside0.mk ((heap_alloc_old (.cells #[.int .u64 hi, .int .u64 lo, .int .i64 ex, .bool true, .int .i64 wd, .int .i64 f, .int .i64 low, .int .i64 high, .bool neg] 118) (blk_lt qb)).trans qb)
         have QG := Aside0.mk (heap_alloc_new w1 (.cells #[.int .u64 hi, .int .u64 lo, .int .i64 ex, .bool true, .int .i64 wd, .int .i64 f, .int .i64 low, .int .i64 high, .bool neg] 118))
         have cb0 := (blk_cell QB.out 0).trans rfl
         have cb1 := (blk_cell QB.out 1).trans rfl
         clear hb qb)
      | (go_at_call 92; refine (ZC.out _ _).mono ?_
         rintro e w2 ⟨n, rfl, gn, hb⟩
         have GN := Aside0.mk gn
         have H2 := Aside0.mk (below_then (HB.out.alloc HB.out.size _) (HB.out.alloc HB.out.size _).size hb)
         clear gn hb)
      | fail)
    all_goals
      refine bodyPost_ret (v := .int .u64 n) (by simp [results, Tryz.results123, go_sem]) rfl ?_
      exact ⟨n, rfl, GN.out, H2.out⟩
theorem i64_max {x y : Int} (h : i64r x) (k : i64r y) : i64r (max x y) := by unfold i64r at *; omega
set_option maxRecDepth 100000 in
set_option maxHeartbeats 4000000 in
theorem Pack_main_a (wd f low high : Int) (neg : Bool) (hi lo ex : Int) (w : World) (u1 : u64 hi) (u2 : u64 lo) (i1 : i64r ex) (f0 : 0 ≤ f)
    (AC : ∀ W, Calls Tryz.prog 137 #[.int .i64 wd, .bool neg, .agg #[.int .u64 hi, .int .u64 lo, .int .i64 ex, .bool false]] W fun e w' => e = .returned (.tuple #[.agg #[.int .u64 hi, .int .u64 lo, .int .i64 ex, .bool false, .int .i64 wd, .int .i64 f, .int .i64 low, .int .i64 high, .bool neg], .bool true]) ∧ Below W.heap.size W w')
    (ZC : ∀ b W, Calls Tryz.prog 92 #[.int .i64 wd, .bool b] W (GoodP W wd)) (IC : ∀ b W, Calls Tryz.prog 93 #[.int .i64 wd, .bool b] W (GoodP W wd))
    (CC : ∀ b ex s W, ex ≤ high → -9223372036854775808 ≤ ex → u64 s → Calls Tryz.prog 156 #[.int .i64 wd, .agg #[.bool b, .int .i64 1, .int .i64 ex, .int .u64 s]] W fun e w' => ∃ n er, e = .returned (.tuple #[.int .u64 n, .int .i64 er]) ∧ Good wd n ∧ Below W.heap.size W w') (hs : ((hi == 0) && (lo == 0)) = false) (hx : ex ≤ 1048576) (hy : -1048576 ≤ ex) : Calls Tryz.prog 123 #[.int .i64 wd, .bool neg, .agg #[.int .u64 hi, .int .u64 lo], .int .i64 ex, .bool false] w (GoodP w wd) := by
  have d1 : decide (ex > 1048576) = false := decide_eq_false (by omega)
  have d2 : decide (ex < -1048576) = false := decide_eq_false (by omega)
  clear hx hy
  have UU := Aside0.mk (And.intro u1 (And.intro u2 i1))
  have FZ := Aside0.mk f0
  clear u1 u2 i1 f0
  have AC := Aside0.mk AC
  have ZC := Aside0.mk ZC
  have IC := Aside0.mk IC
  have CC := Aside0.mk CC
  have eq := eq98
  have eg : Tryz.prog.eqGuardType Tryz.prog.depth 98 = false := by kernel_rfl
  have q0 := heap_alloc_new w (.cells #[.int .u64 hi, .int .u64 lo] 98)
  have Q0 := Aside0.mk q0
  have B0 := Aside0.mk (below_alloc (Below.refl w.heap.size w) (.cells #[.int .u64 hi, .int .u64 lo] 98))
  clear q0
  go_enter Tryz.func123, Tryz.ntmps123
  go_upto_if 54 with (first
    | (go_at_call 137; refine (AC.out _).mono ?_
       rintro e w1 ⟨rfl, hb⟩
       have qb := (hb.block _ (blk_lt Q0.out)).trans Q0.out
       have HB := Aside0.mk (below_then B0.out B0.out.size hb)
       have QB := Aside0.mk ((heap_alloc_old (.cells #[.int .u64 hi, .int .u64 lo, .int .i64 ex, .bool false, .int .i64 wd, .int .i64 f, .int .i64 low, .int .i64 high, .bool neg] 118) (blk_lt qb)).trans qb)
       have QG := Aside0.mk (heap_alloc_new w1 (.cells #[.int .u64 hi, .int .u64 lo, .int .i64 ex, .bool false, .int .i64 wd, .int .i64 f, .int .i64 low, .int .i64 high, .bool neg] 118))
       have cb0 := (blk_cell QB.out 0).trans rfl
       have cb1 := (blk_cell QB.out 1).trans rfl
       clear hb qb)
    | fail)
  go_cut [11] from 14 (fun s11 wc => ∃ (g : Nat) (hi' lo' ex' : Int) (mo' : Bool), s11 = .pointer (some ⟨g, 0, none⟩) ∧ w.heap.size ≤ g ∧ Tn.u64 hi' ∧ Tn.u64 lo' ∧ i64r ex' ∧ wc.heap[g]? = some (TB hi' lo' ex' mo' wd f low high neg) ∧ Below w.heap.size w wc)
  case first =>
    go_wp2
    go_meet
    case rel => exact ⟨w1.heap.size, hi, lo, ex, false, rfl, HB.out.size, UU.out.1, UU.out.2.1, UU.out.2.2, QG.out, HB.out.alloc HB.out.size _⟩
  obtain ⟨g, hi', lo', ex', mo', rfl, hg, x1, x2, x3, F2, H2⟩ := hcut
  have G := Aside0.mk hg
  have X := Aside0.mk (And.intro x1 (And.intro x2 x3))
  have F2 := Aside0.mk F2
  have H2 := Aside0.mk H2
  clear hg x1 x2 x3
  have c0 : wc.cell? ⟨g, 0, none⟩ = some (.int .u64 hi') := (blk_cell F2.out 0).trans rfl
  have c1 : wc.cell? ⟨g, 1, none⟩ = some (.int .u64 lo') := (blk_cell F2.out 1).trans rfl
  have c2 : wc.cell? ⟨g, 2, none⟩ = some (.int .i64 ex') := (blk_cell F2.out 2).trans rfl
  have c5 : wc.cell? ⟨g, 5, none⟩ = some (.int .i64 f) := (blk_cell F2.out 5).trans rfl
  have c6 : wc.cell? ⟨g, 6, none⟩ = some (.int .i64 low) := (blk_cell F2.out 6).trans rfl
  go_wp2
  clear c0 c1 c2 c5 c6
  have F2 := Aside0.mk (show wc.drew.heap[g]? = _ from F2.out)
  have H2 := Aside0.mk (below_drew H2.out)
  refine wp_region_held_drew (S := fun W => W.cell? ⟨g, 5, none⟩ = some (.int .i64 f) ∧ W.cell? ⟨g, 6, none⟩ = some (.int .i64 low)) (by kernel_rfl) (⟨(blk_cell F2.out 5).trans rfl, (blk_cell F2.out 6).trans rfl⟩) (fun hHeld => ?_)
  generalize wc.drew = Wd at *
  refine tk (i := 0) ?_
  (try simp only [Act.put, g4, g5, g6])
  refine tk (i := 1) ?_
  (try simp only [Act.put, g4, g5, g6])
  refine tk (i := 2) ?_
  (try simp only [Act.put, g4, g5, g6])
  refine tk (i := 5) ?_
  (try simp only [Act.put, g4, g5, g6])
  refine tk (i := 6) ?_
  (try simp only [Act.put, g4, g5, g6])
  refine tk (i := 9) ?_
  (try simp only [Act.put, g4, g5, g6])
  refine tk (i := 10) ?_
  (try simp only [Act.put, g4, g5, g6])
  refine tk (i := 11) ?_
  (try simp only [Act.put, g4, g5, g6])
  refine tk (i := 12) ?_
  (try simp only [Act.put, g4, g5, g6])
  refine wpAnyH_ready (rs := [3, 13]) (by kernel_rfl) (by simp) ?_
  refine AllReadyH.cons (o := ?ob32) ?hb32 (fun K hK => ?sb32) ?mb32
  case hb32 => simp only [g1, g2, g3]; rfl
  case sb32 =>
    have c0 : Wd.cell? ⟨g, 0, none⟩ = some (.int .u64 hi') := (blk_cell F2.out 0).trans rfl
    have c1 : Wd.cell? ⟨g, 1, none⟩ = some (.int .u64 lo') := (blk_cell F2.out 1).trans rfl
    go_simp
    clear c0 c1
    refine hK.out _ _ (⟨(blk_cell F2.out 5).trans rfl, (blk_cell F2.out 6).trans rfl⟩) (fun hHeld2 => ?_)
    clear hK K hHeld
    have hHeld := hHeld2
    clear hHeld2
    (try simp only [Act.put, g4, g5, g6])
    refine wpAnyH_ready (rs := [4, 13]) (by kernel_rfl) (by simp) ?_
    refine AllReadyH.cons (o := ?ob33) ?hb33 (fun K hK => ?sb33) ?mb33
    case hb33 => simp only [g1, g2, g3]; rfl
    case sb33 =>
      go_simp
      refine (Len_calls hi' lo' _ X.out.1 X.out.2.1).mono ?_
      rintro e w36 ⟨r, rfl, hr0, hr1, hb⟩
      have F36 := Aside0.mk ((hb.block _ (blk_lt F2.out)).trans F2.out)
      have H36 := Aside0.mk (below_then H2.out H2.out.size hb)
      clear hb hr0 hr1
      refine hK.out _ _ (⟨(blk_cell F36.out 5).trans rfl, (blk_cell F36.out 6).trans rfl⟩) (fun hHeld2 => ?_)
      clear hK K hHeld
      have hHeld := hHeld2
      clear hHeld2
      (try simp only [Act.put, g4, g5, g6])
      refine tk (i := 7) ?_
      (try simp only [Act.put, g4, g5, g6])
      refine tk (i := 8) ?_
      (try simp only [Act.put, g4, g5, g6])
      refine wpAnyH_ready (rs := [13]) (by kernel_rfl) (by simp) ?_
      refine AllReadyH.cons (o := ?ob34) ?hb34 (fun K hK => ?sb34) ?mb34
      case hb34 => simp only [g1, g2, g3]; rfl
      case sb34 =>
        have c2 : w36.cell? ⟨g, 2, none⟩ = some (.int .i64 ex') := (blk_cell F36.out 2).trans rfl
        go_simp
        clear c2
        refine hK.out _ _ (⟨(blk_cell F36.out 5).trans rfl, (blk_cell F36.out 6).trans rfl⟩) (fun hHeld2 => ?_)
        clear hK K hHeld
        have hHeld := hHeld2
        clear hHeld2
        (try simp only [Act.put, g4, g5, g6])
        refine tk (i := 14) ?_
        (try simp only [Act.put, g4, g5, g6])
        refine tk (i := 15) ?_
        (try simp only [Act.put, g4, g5, g6])
        refine wpAnyH_ready (rs := [16]) (by kernel_rfl) (by simp) ?_
        refine AllReadyH.cons (o := ?ob35) ?hb35 (fun K hK => ?sb35) ?mb35
        case hb35 => simp only [g1, g2, g3]; rfl
        case sb35 =>
          go_simp
          refine (nearest_calls g hi' lo' ex' wd f low high mo' neg _ F36.out X.out.1 X.out.2.1 X.out.2.2 _ (i64_max (i64_wrap _) (i64_wrap _))).mono ?_
          rintro e w4 ⟨rfl, hi2, lo2, ex2, mo2, y1, y2, y3, F4', H4'⟩
          have F4 := Aside0.mk F4'
          have H4 := Aside0.mk (og_lift H36.out H36.out.size G.out H4')
          have Y := Aside0.mk (And.intro y1 (And.intro y2 y3))
          clear y1 y2 y3 F4' H4'
          refine hK.out _ _ (⟨(blk_cell F4.out 5).trans rfl, (blk_cell F4.out 6).trans rfl⟩) (fun hHeld2 => ?_)
          clear hK K hHeld
          have hHeld := hHeld2
          clear hHeld2
          (try simp only [Act.put, g4, g5, g6])
          refine wpAnyH_done (by kernel_rfl) ?_ _
          go_wp2_with (first
            | (go_at_call 142; refine (raise_calls g hi2 lo2 ex2 wd f low high mo2 neg _ F4.out Y.out.1 Y.out.2.1 Y.out.2.2).mono ?_
               rintro e w5 ⟨⟨b, rfl⟩, hi3, lo3, ex3, mo3, y1, y2, y3, F5', H5'⟩
               have F5 := Aside0.mk F5'
               have H5 := Aside0.mk (og_lift H4.out H4.out.size G.out H5')
               have Z := Aside0.mk (And.intro y1 (And.intro y2 y3))
               clear y1 y2 y3 F5' H5')
            | (go_at_call 93; refine (IC.out _ _).mono ?_
               rintro e w6 ⟨n, rfl, gn, hb⟩
               have GN := Aside0.mk gn
               have H6 := Aside0.mk (below_then H5.out H5.out.size hb)
               clear gn hb)
            | (go_at_call 143; refine (close_calls g hi3 lo3 ex3 wd f low high mo3 neg _ F5.out Z.out.1 Z.out.2.1 Z.out.2.2 FZ.out ZC.out IC.out CC.out).mono ?_
               rintro e w6 ⟨n, rfl, gn, ho⟩
               have GN := Aside0.mk gn
               have H6 := Aside0.mk (og_lift H5.out H5.out.size G.out ho)
               clear gn ho)
            | fail)
          all_goals
            refine bodyPost_ret (v := .int .u64 n) (by simp [results, Tryz.results123, go_sem]) rfl ?_
            exact ⟨n, rfl, GN.out, H6.out⟩
        exact AllReadyH.nil
      exact AllReadyH.nil
    refine AllReadyH.cons (o := ?ob36) ?hb36 (fun K hK => ?sb36) ?mb36
    case hb36 => simp only [g1, g2, g3]; rfl
    case sb36 =>
      have c2 : Wd.cell? ⟨g, 2, none⟩ = some (.int .i64 ex') := (blk_cell F2.out 2).trans rfl
      go_simp
      clear c2
      refine hK.out _ _ (⟨(blk_cell F2.out 5).trans rfl, (blk_cell F2.out 6).trans rfl⟩) (fun hHeld2 => ?_)
      clear hK K hHeld
      have hHeld := hHeld2
      clear hHeld2
      (try simp only [Act.put, g4, g5, g6])
      refine tk (i := 14) ?_
      (try simp only [Act.put, g4, g5, g6])
      refine wpAnyH_ready (rs := [4]) (by kernel_rfl) (by simp) ?_
      refine AllReadyH.cons (o := ?ob37) ?hb37 (fun K hK => ?sb37) ?mb37
      case hb37 => simp only [g1, g2, g3]; rfl
      case sb37 =>
        go_simp
        refine (Len_calls hi' lo' _ X.out.1 X.out.2.1).mono ?_
        rintro e w38 ⟨r, rfl, hr0, hr1, hb⟩
        have F38 := Aside0.mk ((hb.block _ (blk_lt F2.out)).trans F2.out)
        have H38 := Aside0.mk (below_then H2.out H2.out.size hb)
        clear hb hr0 hr1
        refine hK.out _ _ (⟨(blk_cell F38.out 5).trans rfl, (blk_cell F38.out 6).trans rfl⟩) (fun hHeld2 => ?_)
        clear hK K hHeld
        have hHeld := hHeld2
        clear hHeld2
        (try simp only [Act.put, g4, g5, g6])
        refine tk (i := 7) ?_
        (try simp only [Act.put, g4, g5, g6])
        refine tk (i := 8) ?_
        (try simp only [Act.put, g4, g5, g6])
        refine tk (i := 15) ?_
        (try simp only [Act.put, g4, g5, g6])
        refine wpAnyH_ready (rs := [16]) (by kernel_rfl) (by simp) ?_
        refine AllReadyH.cons (o := ?ob38) ?hb38 (fun K hK => ?sb38) ?mb38
        case hb38 => simp only [g1, g2, g3]; rfl
        case sb38 =>
          go_simp
          refine (nearest_calls g hi' lo' ex' wd f low high mo' neg _ F38.out X.out.1 X.out.2.1 X.out.2.2 _ (i64_max (i64_wrap _) (i64_wrap _))).mono ?_
          rintro e w4 ⟨rfl, hi2, lo2, ex2, mo2, y1, y2, y3, F4', H4'⟩
          have F4 := Aside0.mk F4'
          have H4 := Aside0.mk (og_lift H38.out H38.out.size G.out H4')
          have Y := Aside0.mk (And.intro y1 (And.intro y2 y3))
          clear y1 y2 y3 F4' H4'
          refine hK.out _ _ (⟨(blk_cell F4.out 5).trans rfl, (blk_cell F4.out 6).trans rfl⟩) (fun hHeld2 => ?_)
          clear hK K hHeld
          have hHeld := hHeld2
          clear hHeld2
          (try simp only [Act.put, g4, g5, g6])
          refine wpAnyH_done (by kernel_rfl) ?_ _
          go_wp2_with (first
            | (go_at_call 142; refine (raise_calls g hi2 lo2 ex2 wd f low high mo2 neg _ F4.out Y.out.1 Y.out.2.1 Y.out.2.2).mono ?_
               rintro e w5 ⟨⟨b, rfl⟩, hi3, lo3, ex3, mo3, y1, y2, y3, F5', H5'⟩
               have F5 := Aside0.mk F5'
               have H5 := Aside0.mk (og_lift H4.out H4.out.size G.out H5')
               have Z := Aside0.mk (And.intro y1 (And.intro y2 y3))
               clear y1 y2 y3 F5' H5')
            | (go_at_call 93; refine (IC.out _ _).mono ?_
               rintro e w6 ⟨n, rfl, gn, hb⟩
               have GN := Aside0.mk gn
               have H6 := Aside0.mk (below_then H5.out H5.out.size hb)
               clear gn hb)
            | (go_at_call 143; refine (close_calls g hi3 lo3 ex3 wd f low high mo3 neg _ F5.out Z.out.1 Z.out.2.1 Z.out.2.2 FZ.out ZC.out IC.out CC.out).mono ?_
               rintro e w6 ⟨n, rfl, gn, ho⟩
               have GN := Aside0.mk gn
               have H6 := Aside0.mk (og_lift H5.out H5.out.size G.out ho)
               clear gn ho)
            | fail)
          all_goals
            refine bodyPost_ret (v := .int .u64 n) (by simp [results, Tryz.results123, go_sem]) rfl ?_
            exact ⟨n, rfl, GN.out, H6.out⟩
        exact AllReadyH.nil
      exact AllReadyH.nil
    exact AllReadyH.nil
  refine AllReadyH.cons (o := ?ob39) ?hb39 (fun K hK => ?sb39) ?mb39
  case hb39 => simp only [g1, g2, g3]; rfl
  case sb39 =>
    have c2 : Wd.cell? ⟨g, 2, none⟩ = some (.int .i64 ex') := (blk_cell F2.out 2).trans rfl
    go_simp
    clear c2
    refine hK.out _ _ (⟨(blk_cell F2.out 5).trans rfl, (blk_cell F2.out 6).trans rfl⟩) (fun hHeld2 => ?_)
    clear hK K hHeld
    have hHeld := hHeld2
    clear hHeld2
    (try simp only [Act.put, g4, g5, g6])
    refine tk (i := 14) ?_
    (try simp only [Act.put, g4, g5, g6])
    refine wpAnyH_ready (rs := [3]) (by kernel_rfl) (by simp) ?_
    refine AllReadyH.cons (o := ?ob40) ?hb40 (fun K hK => ?sb40) ?mb40
    case hb40 => simp only [g1, g2, g3]; rfl
    case sb40 =>
      have c0 : Wd.cell? ⟨g, 0, none⟩ = some (.int .u64 hi') := (blk_cell F2.out 0).trans rfl
      have c1 : Wd.cell? ⟨g, 1, none⟩ = some (.int .u64 lo') := (blk_cell F2.out 1).trans rfl
      go_simp
      clear c0 c1
      refine hK.out _ _ (⟨(blk_cell F2.out 5).trans rfl, (blk_cell F2.out 6).trans rfl⟩) (fun hHeld2 => ?_)
      clear hK K hHeld
      have hHeld := hHeld2
      clear hHeld2
      (try simp only [Act.put, g4, g5, g6])
      refine wpAnyH_ready (rs := [4]) (by kernel_rfl) (by simp) ?_
      refine AllReadyH.cons (o := ?ob41) ?hb41 (fun K hK => ?sb41) ?mb41
      case hb41 => simp only [g1, g2, g3]; rfl
      case sb41 =>
        go_simp
        refine (Len_calls hi' lo' _ X.out.1 X.out.2.1).mono ?_
        rintro e w40 ⟨r, rfl, hr0, hr1, hb⟩
        have F40 := Aside0.mk ((hb.block _ (blk_lt F2.out)).trans F2.out)
        have H40 := Aside0.mk (below_then H2.out H2.out.size hb)
        clear hb hr0 hr1
        refine hK.out _ _ (⟨(blk_cell F40.out 5).trans rfl, (blk_cell F40.out 6).trans rfl⟩) (fun hHeld2 => ?_)
        clear hK K hHeld
        have hHeld := hHeld2
        clear hHeld2
        (try simp only [Act.put, g4, g5, g6])
        refine tk (i := 7) ?_
        (try simp only [Act.put, g4, g5, g6])
        refine tk (i := 8) ?_
        (try simp only [Act.put, g4, g5, g6])
        refine tk (i := 15) ?_
        (try simp only [Act.put, g4, g5, g6])
        refine wpAnyH_ready (rs := [16]) (by kernel_rfl) (by simp) ?_
        refine AllReadyH.cons (o := ?ob42) ?hb42 (fun K hK => ?sb42) ?mb42
        case hb42 => simp only [g1, g2, g3]; rfl
        case sb42 =>
          go_simp
          refine (nearest_calls g hi' lo' ex' wd f low high mo' neg _ F40.out X.out.1 X.out.2.1 X.out.2.2 _ (i64_max (i64_wrap _) (i64_wrap _))).mono ?_
          rintro e w4 ⟨rfl, hi2, lo2, ex2, mo2, y1, y2, y3, F4', H4'⟩
          have F4 := Aside0.mk F4'
          have H4 := Aside0.mk (og_lift H40.out H40.out.size G.out H4')
          have Y := Aside0.mk (And.intro y1 (And.intro y2 y3))
          clear y1 y2 y3 F4' H4'
          refine hK.out _ _ (⟨(blk_cell F4.out 5).trans rfl, (blk_cell F4.out 6).trans rfl⟩) (fun hHeld2 => ?_)
          clear hK K hHeld
          have hHeld := hHeld2
          clear hHeld2
          (try simp only [Act.put, g4, g5, g6])
          refine wpAnyH_done (by kernel_rfl) ?_ _
          go_wp2_with (first
            | (go_at_call 142; refine (raise_calls g hi2 lo2 ex2 wd f low high mo2 neg _ F4.out Y.out.1 Y.out.2.1 Y.out.2.2).mono ?_
               rintro e w5 ⟨⟨b, rfl⟩, hi3, lo3, ex3, mo3, y1, y2, y3, F5', H5'⟩
               have F5 := Aside0.mk F5'
               have H5 := Aside0.mk (og_lift H4.out H4.out.size G.out H5')
               have Z := Aside0.mk (And.intro y1 (And.intro y2 y3))
               clear y1 y2 y3 F5' H5')
            | (go_at_call 93; refine (IC.out _ _).mono ?_
               rintro e w6 ⟨n, rfl, gn, hb⟩
               have GN := Aside0.mk gn
               have H6 := Aside0.mk (below_then H5.out H5.out.size hb)
               clear gn hb)
            | (go_at_call 143; refine (close_calls g hi3 lo3 ex3 wd f low high mo3 neg _ F5.out Z.out.1 Z.out.2.1 Z.out.2.2 FZ.out ZC.out IC.out CC.out).mono ?_
               rintro e w6 ⟨n, rfl, gn, ho⟩
               have GN := Aside0.mk gn
               have H6 := Aside0.mk (og_lift H5.out H5.out.size G.out ho)
               clear gn ho)
            | fail)
          all_goals
            refine bodyPost_ret (v := .int .u64 n) (by simp [results, Tryz.results123, go_sem]) rfl ?_
            exact ⟨n, rfl, GN.out, H6.out⟩
        exact AllReadyH.nil
      exact AllReadyH.nil
    exact AllReadyH.nil
  exact AllReadyH.nil
set_option maxRecDepth 100000 in
set_option maxHeartbeats 4000000 in
theorem Pack_main_b (wd f low high : Int) (neg : Bool) (hi lo ex : Int) (w : World) (u1 : u64 hi) (u2 : u64 lo) (i1 : i64r ex) (f0 : 0 ≤ f)
    (AC : ∀ W, Calls Tryz.prog 137 #[.int .i64 wd, .bool neg, .agg #[.int .u64 hi, .int .u64 lo, .int .i64 ex, .bool true]] W fun e w' => e = .returned (.tuple #[.agg #[.int .u64 hi, .int .u64 lo, .int .i64 ex, .bool true, .int .i64 wd, .int .i64 f, .int .i64 low, .int .i64 high, .bool neg], .bool true]) ∧ Below W.heap.size W w')
    (ZC : ∀ b W, Calls Tryz.prog 92 #[.int .i64 wd, .bool b] W (GoodP W wd)) (IC : ∀ b W, Calls Tryz.prog 93 #[.int .i64 wd, .bool b] W (GoodP W wd))
    (CC : ∀ b ex s W, ex ≤ high → -9223372036854775808 ≤ ex → u64 s → Calls Tryz.prog 156 #[.int .i64 wd, .agg #[.bool b, .int .i64 1, .int .i64 ex, .int .u64 s]] W fun e w' => ∃ n er, e = .returned (.tuple #[.int .u64 n, .int .i64 er]) ∧ Good wd n ∧ Below W.heap.size W w') (hs : ((hi == 0) && (lo == 0)) = false) (hx : ex ≤ 1048576) (hy : -1048576 ≤ ex) : Calls Tryz.prog 123 #[.int .i64 wd, .bool neg, .agg #[.int .u64 hi, .int .u64 lo], .int .i64 ex, .bool true] w (GoodP w wd) := by
  have d1 : decide (ex > 1048576) = false := decide_eq_false (by omega)
  have d2 : decide (ex < -1048576) = false := decide_eq_false (by omega)
  clear hx hy
  have UU := Aside0.mk (And.intro u1 (And.intro u2 i1))
  have FZ := Aside0.mk f0
  clear u1 u2 i1 f0
  have AC := Aside0.mk AC
  have ZC := Aside0.mk ZC
  have IC := Aside0.mk IC
  have CC := Aside0.mk CC
  have eq := eq98
  have eg : Tryz.prog.eqGuardType Tryz.prog.depth 98 = false := by kernel_rfl
  have q0 := heap_alloc_new w (.cells #[.int .u64 hi, .int .u64 lo] 98)
  have Q0 := Aside0.mk q0
  have B0 := Aside0.mk (below_alloc (Below.refl w.heap.size w) (.cells #[.int .u64 hi, .int .u64 lo] 98))
  clear q0
  go_enter Tryz.func123, Tryz.ntmps123
  go_upto_if 54 with (first
    | (go_at_call 137; refine (AC.out _).mono ?_
       rintro e w1 ⟨rfl, hb⟩
       have qb := (hb.block _ (blk_lt Q0.out)).trans Q0.out
       have HB := Aside0.mk (below_then B0.out B0.out.size hb)
       have QB := Aside0.mk ((heap_alloc_old (.cells #[.int .u64 hi, .int .u64 lo, .int .i64 ex, .bool true, .int .i64 wd, .int .i64 f, .int .i64 low, .int .i64 high, .bool neg] 118) (blk_lt qb)).trans qb)
       have QG := Aside0.mk (heap_alloc_new w1 (.cells #[.int .u64 hi, .int .u64 lo, .int .i64 ex, .bool true, .int .i64 wd, .int .i64 f, .int .i64 low, .int .i64 high, .bool neg] 118))
       have cb0 := (blk_cell QB.out 0).trans rfl
       have cb1 := (blk_cell QB.out 1).trans rfl
       clear hb qb)
    | (go_at_call 138; refine (Len_calls hi lo _ UU.out.1 UU.out.2.1).mono ?_
       rintro e w2 ⟨r, rfl, hr0, hr1, hb⟩
       have qb := (hb.block _ (blk_lt QB.out)).trans QB.out
       have QB2 := Aside0.mk qb
       have QG2 := Aside0.mk ((hb.block _ (blk_lt QG.out)).trans QG.out)
       have H2 := Aside0.mk (below_then (HB.out.alloc HB.out.size _) (HB.out.alloc HB.out.size _).size hb)
       clear cb0 cb1
       have cb0 := (blk_cell qb 0).trans rfl
       have cb1 := (blk_cell qb 1).trans rfl
       clear hb qb hr0 hr1)
    | fail)
  go_cut [11] from 14 (fun s11 wc => ∃ (g : Nat) (hi' lo' ex' : Int) (mo' : Bool), s11 = .pointer (some ⟨g, 0, none⟩) ∧ w.heap.size ≤ g ∧ Tn.u64 hi' ∧ Tn.u64 lo' ∧ i64r ex' ∧ wc.heap[g]? = some (TB hi' lo' ex' mo' wd f low high neg) ∧ Below w.heap.size w wc)
  case first =>
    by_cases hr : r < 127
    · have d5 : decide (r < 127) = true := decide_eq_true hr
      obtain ⟨ex5, wx, hx5⟩ := i64_at (ex - 1)
      have X5 := Aside0.mk hx5
      clear hx5
      go_wp2_with (first
        | (go_at_call 140; refine (Left_calls hi lo 1 _ UU.out.1 UU.out.2.1 (by decide) (by decide)).mono ?_
           rintro e w3 ⟨h3, l3, rfl, v1, v2, hb⟩
           have V3 := Aside0.mk (And.intro v1 v2)
           have QG3 := Aside0.mk ((hb.block _ (blk_lt QG2.out)).trans QG2.out)
           have H3 := Aside0.mk (below_then H2.out H2.out.size hb)
           clear v1 v2 hb cb0 cb1)
        | (go_at_call 124; refine (Of_calls 1 _).mono ?_
           rintro e w4 ⟨rfl, hb⟩
           have QG4 := Aside0.mk ((hb.block _ (blk_lt QG3.out)).trans QG3.out)
           have H4 := Aside0.mk (below_then H3.out H3.out.size hb)
           clear hb)
        | (go_at_call 139; refine (Add_calls h3 l3 0 1 _ V3.out.1 V3.out.2 (by unfold Tn.u64; decide) (by unfold Tn.u64; decide)).mono ?_
           rintro e w5 ⟨h5, l5, rfl, v1, v2, hb⟩
           have V5 := Aside0.mk (And.intro v1 v2)
           have QG5 := Aside0.mk ((hb.block _ (blk_lt QG4.out)).trans QG4.out)
           have H5 := Aside0.mk (below_then H4.out H4.out.size hb)
           have GG := Aside0.mk (show w.heap.size ≤ w1.heap.size from HB.out.size)
           have c0 : w5.cell? ⟨w1.heap.size, 0, none⟩ = some (.int .u64 hi) := (blk_cell QG5.out 0).trans rfl
           have z0 : w5.frozen? ⟨w1.heap.size, 0, none⟩ = false := blk_frozen QG5.out 0
           have c1 : w5.cell? ⟨w1.heap.size, 1, none⟩ = some (.int .u64 lo) := (blk_cell QG5.out 1).trans rfl
           have z1 : w5.frozen? ⟨w1.heap.size, 1, none⟩ = false := blk_frozen QG5.out 1
           have c2 : w5.cell? ⟨w1.heap.size, 2, none⟩ = some (.int .i64 ex) := (blk_cell QG5.out 2).trans rfl
           have z2 : w5.frozen? ⟨w1.heap.size, 2, none⟩ = false := blk_frozen QG5.out 2
           have c3 : w5.cell? ⟨w1.heap.size, 3, none⟩ = some (.bool true) := (blk_cell QG5.out 3).trans rfl
           have z3 : w5.frozen? ⟨w1.heap.size, 3, none⟩ = false := blk_frozen QG5.out 3
           clear v1 v2 hb)
        | fail)
      go_meet
      case rel => exact ⟨w1.heap.size, h5, l5, ex5, false, rfl, GG.out, V5.out.1, V5.out.2, X5.out, by have P := blk_set (blk_set (blk_set (blk_set QG5.out 0 (.int .u64 h5)) 1 (.int .u64 l5)) 2 (.int .i64 ex5)) 3 (.bool false); simpa using P, bset (bset (bset (bset H5.out GG.out 0 _) GG.out 1 _) GG.out 2 _) GG.out 3 _⟩
    · have d5 : decide (r < 127) = false := decide_eq_false hr
      go_wp2
      go_meet
      case rel => exact ⟨w1.heap.size, hi, lo, ex, true, rfl, HB.out.size, UU.out.1, UU.out.2.1, UU.out.2.2, QG2.out, H2.out⟩
  obtain ⟨g, hi', lo', ex', mo', rfl, hg, x1, x2, x3, F2, H2⟩ := hcut
  have G := Aside0.mk hg
  have X := Aside0.mk (And.intro x1 (And.intro x2 x3))
  have F2 := Aside0.mk F2
  have H2 := Aside0.mk H2
  clear hg x1 x2 x3
  have c0 : wc.cell? ⟨g, 0, none⟩ = some (.int .u64 hi') := (blk_cell F2.out 0).trans rfl
  have c1 : wc.cell? ⟨g, 1, none⟩ = some (.int .u64 lo') := (blk_cell F2.out 1).trans rfl
  have c2 : wc.cell? ⟨g, 2, none⟩ = some (.int .i64 ex') := (blk_cell F2.out 2).trans rfl
  have c5 : wc.cell? ⟨g, 5, none⟩ = some (.int .i64 f) := (blk_cell F2.out 5).trans rfl
  have c6 : wc.cell? ⟨g, 6, none⟩ = some (.int .i64 low) := (blk_cell F2.out 6).trans rfl
  go_wp2
  clear c0 c1 c2 c5 c6
  have F2 := Aside0.mk (show wc.drew.heap[g]? = _ from F2.out)
  have H2 := Aside0.mk (below_drew H2.out)
  refine wp_region_held_drew (S := fun W => W.cell? ⟨g, 5, none⟩ = some (.int .i64 f) ∧ W.cell? ⟨g, 6, none⟩ = some (.int .i64 low)) (by kernel_rfl) (⟨(blk_cell F2.out 5).trans rfl, (blk_cell F2.out 6).trans rfl⟩) (fun hHeld => ?_)
  generalize wc.drew = Wd at *
  refine tk (i := 0) ?_
  (try simp only [Act.put, g4, g5, g6])
  refine tk (i := 1) ?_
  (try simp only [Act.put, g4, g5, g6])
  refine tk (i := 2) ?_
  (try simp only [Act.put, g4, g5, g6])
  refine tk (i := 5) ?_
  (try simp only [Act.put, g4, g5, g6])
  refine tk (i := 6) ?_
  (try simp only [Act.put, g4, g5, g6])
  refine tk (i := 9) ?_
  (try simp only [Act.put, g4, g5, g6])
  refine tk (i := 10) ?_
  (try simp only [Act.put, g4, g5, g6])
  refine tk (i := 11) ?_
  (try simp only [Act.put, g4, g5, g6])
  refine tk (i := 12) ?_
  (try simp only [Act.put, g4, g5, g6])
  refine wpAnyH_ready (rs := [3, 13]) (by kernel_rfl) (by simp) ?_
  refine AllReadyH.cons (o := ?ob43) ?hb43 (fun K hK => ?sb43) ?mb43
  case hb43 => simp only [g1, g2, g3]; rfl
  case sb43 =>
    have c0 : Wd.cell? ⟨g, 0, none⟩ = some (.int .u64 hi') := (blk_cell F2.out 0).trans rfl
    have c1 : Wd.cell? ⟨g, 1, none⟩ = some (.int .u64 lo') := (blk_cell F2.out 1).trans rfl
    go_simp
    clear c0 c1
    refine hK.out _ _ (⟨(blk_cell F2.out 5).trans rfl, (blk_cell F2.out 6).trans rfl⟩) (fun hHeld2 => ?_)
    clear hK K hHeld
    have hHeld := hHeld2
    clear hHeld2
    (try simp only [Act.put, g4, g5, g6])
    refine wpAnyH_ready (rs := [4, 13]) (by kernel_rfl) (by simp) ?_
    refine AllReadyH.cons (o := ?ob44) ?hb44 (fun K hK => ?sb44) ?mb44
    case hb44 => simp only [g1, g2, g3]; rfl
    case sb44 =>
      go_simp
      refine (Len_calls hi' lo' _ X.out.1 X.out.2.1).mono ?_
      rintro e w42 ⟨r, rfl, hr0, hr1, hb⟩
      have F42 := Aside0.mk ((hb.block _ (blk_lt F2.out)).trans F2.out)
      have H42 := Aside0.mk (below_then H2.out H2.out.size hb)
      clear hb hr0 hr1
      refine hK.out _ _ (⟨(blk_cell F42.out 5).trans rfl, (blk_cell F42.out 6).trans rfl⟩) (fun hHeld2 => ?_)
      clear hK K hHeld
      have hHeld := hHeld2
      clear hHeld2
      (try simp only [Act.put, g4, g5, g6])
      refine tk (i := 7) ?_
      (try simp only [Act.put, g4, g5, g6])
      refine tk (i := 8) ?_
      (try simp only [Act.put, g4, g5, g6])
      refine wpAnyH_ready (rs := [13]) (by kernel_rfl) (by simp) ?_
      refine AllReadyH.cons (o := ?ob45) ?hb45 (fun K hK => ?sb45) ?mb45
      case hb45 => simp only [g1, g2, g3]; rfl
      case sb45 =>
        have c2 : w42.cell? ⟨g, 2, none⟩ = some (.int .i64 ex') := (blk_cell F42.out 2).trans rfl
        go_simp
        clear c2
        refine hK.out _ _ (⟨(blk_cell F42.out 5).trans rfl, (blk_cell F42.out 6).trans rfl⟩) (fun hHeld2 => ?_)
        clear hK K hHeld
        have hHeld := hHeld2
        clear hHeld2
        (try simp only [Act.put, g4, g5, g6])
        refine tk (i := 14) ?_
        (try simp only [Act.put, g4, g5, g6])
        refine tk (i := 15) ?_
        (try simp only [Act.put, g4, g5, g6])
        refine wpAnyH_ready (rs := [16]) (by kernel_rfl) (by simp) ?_
        refine AllReadyH.cons (o := ?ob46) ?hb46 (fun K hK => ?sb46) ?mb46
        case hb46 => simp only [g1, g2, g3]; rfl
        case sb46 =>
          go_simp
          refine (nearest_calls g hi' lo' ex' wd f low high mo' neg _ F42.out X.out.1 X.out.2.1 X.out.2.2 _ (i64_max (i64_wrap _) (i64_wrap _))).mono ?_
          rintro e w4 ⟨rfl, hi2, lo2, ex2, mo2, y1, y2, y3, F4', H4'⟩
          have F4 := Aside0.mk F4'
          have H4 := Aside0.mk (og_lift H42.out H42.out.size G.out H4')
          have Y := Aside0.mk (And.intro y1 (And.intro y2 y3))
          clear y1 y2 y3 F4' H4'
          refine hK.out _ _ (⟨(blk_cell F4.out 5).trans rfl, (blk_cell F4.out 6).trans rfl⟩) (fun hHeld2 => ?_)
          clear hK K hHeld
          have hHeld := hHeld2
          clear hHeld2
          (try simp only [Act.put, g4, g5, g6])
          refine wpAnyH_done (by kernel_rfl) ?_ _
          go_wp2_with (first
            | (go_at_call 142; refine (raise_calls g hi2 lo2 ex2 wd f low high mo2 neg _ F4.out Y.out.1 Y.out.2.1 Y.out.2.2).mono ?_
               rintro e w5 ⟨⟨b, rfl⟩, hi3, lo3, ex3, mo3, y1, y2, y3, F5', H5'⟩
               have F5 := Aside0.mk F5'
               have H5 := Aside0.mk (og_lift H4.out H4.out.size G.out H5')
               have Z := Aside0.mk (And.intro y1 (And.intro y2 y3))
               clear y1 y2 y3 F5' H5')
            | (go_at_call 93; refine (IC.out _ _).mono ?_
               rintro e w6 ⟨n, rfl, gn, hb⟩
               have GN := Aside0.mk gn
               have H6 := Aside0.mk (below_then H5.out H5.out.size hb)
               clear gn hb)
            | (go_at_call 143; refine (close_calls g hi3 lo3 ex3 wd f low high mo3 neg _ F5.out Z.out.1 Z.out.2.1 Z.out.2.2 FZ.out ZC.out IC.out CC.out).mono ?_
               rintro e w6 ⟨n, rfl, gn, ho⟩
               have GN := Aside0.mk gn
               have H6 := Aside0.mk (og_lift H5.out H5.out.size G.out ho)
               clear gn ho)
            | fail)
          all_goals
            refine bodyPost_ret (v := .int .u64 n) (by simp [results, Tryz.results123, go_sem]) rfl ?_
            exact ⟨n, rfl, GN.out, H6.out⟩
        exact AllReadyH.nil
      exact AllReadyH.nil
    refine AllReadyH.cons (o := ?ob47) ?hb47 (fun K hK => ?sb47) ?mb47
    case hb47 => simp only [g1, g2, g3]; rfl
    case sb47 =>
      have c2 : Wd.cell? ⟨g, 2, none⟩ = some (.int .i64 ex') := (blk_cell F2.out 2).trans rfl
      go_simp
      clear c2
      refine hK.out _ _ (⟨(blk_cell F2.out 5).trans rfl, (blk_cell F2.out 6).trans rfl⟩) (fun hHeld2 => ?_)
      clear hK K hHeld
      have hHeld := hHeld2
      clear hHeld2
      (try simp only [Act.put, g4, g5, g6])
      refine tk (i := 14) ?_
      (try simp only [Act.put, g4, g5, g6])
      refine wpAnyH_ready (rs := [4]) (by kernel_rfl) (by simp) ?_
      refine AllReadyH.cons (o := ?ob48) ?hb48 (fun K hK => ?sb48) ?mb48
      case hb48 => simp only [g1, g2, g3]; rfl
      case sb48 =>
        go_simp
        refine (Len_calls hi' lo' _ X.out.1 X.out.2.1).mono ?_
        rintro e w44 ⟨r, rfl, hr0, hr1, hb⟩
        have F44 := Aside0.mk ((hb.block _ (blk_lt F2.out)).trans F2.out)
        have H44 := Aside0.mk (below_then H2.out H2.out.size hb)
        clear hb hr0 hr1
        refine hK.out _ _ (⟨(blk_cell F44.out 5).trans rfl, (blk_cell F44.out 6).trans rfl⟩) (fun hHeld2 => ?_)
        clear hK K hHeld
        have hHeld := hHeld2
        clear hHeld2
        (try simp only [Act.put, g4, g5, g6])
        refine tk (i := 7) ?_
        (try simp only [Act.put, g4, g5, g6])
        refine tk (i := 8) ?_
        (try simp only [Act.put, g4, g5, g6])
        refine tk (i := 15) ?_
        (try simp only [Act.put, g4, g5, g6])
        refine wpAnyH_ready (rs := [16]) (by kernel_rfl) (by simp) ?_
        refine AllReadyH.cons (o := ?ob49) ?hb49 (fun K hK => ?sb49) ?mb49
        case hb49 => simp only [g1, g2, g3]; rfl
        case sb49 =>
          go_simp
          refine (nearest_calls g hi' lo' ex' wd f low high mo' neg _ F44.out X.out.1 X.out.2.1 X.out.2.2 _ (i64_max (i64_wrap _) (i64_wrap _))).mono ?_
          rintro e w4 ⟨rfl, hi2, lo2, ex2, mo2, y1, y2, y3, F4', H4'⟩
          have F4 := Aside0.mk F4'
          have H4 := Aside0.mk (og_lift H44.out H44.out.size G.out H4')
          have Y := Aside0.mk (And.intro y1 (And.intro y2 y3))
          clear y1 y2 y3 F4' H4'
          refine hK.out _ _ (⟨(blk_cell F4.out 5).trans rfl, (blk_cell F4.out 6).trans rfl⟩) (fun hHeld2 => ?_)
          clear hK K hHeld
          have hHeld := hHeld2
          clear hHeld2
          (try simp only [Act.put, g4, g5, g6])
          refine wpAnyH_done (by kernel_rfl) ?_ _
          go_wp2_with (first
            | (go_at_call 142; refine (raise_calls g hi2 lo2 ex2 wd f low high mo2 neg _ F4.out Y.out.1 Y.out.2.1 Y.out.2.2).mono ?_
               rintro e w5 ⟨⟨b, rfl⟩, hi3, lo3, ex3, mo3, y1, y2, y3, F5', H5'⟩
               have F5 := Aside0.mk F5'
               have H5 := Aside0.mk (og_lift H4.out H4.out.size G.out H5')
               have Z := Aside0.mk (And.intro y1 (And.intro y2 y3))
               clear y1 y2 y3 F5' H5')
            | (go_at_call 93; refine (IC.out _ _).mono ?_
               rintro e w6 ⟨n, rfl, gn, hb⟩
               have GN := Aside0.mk gn
               have H6 := Aside0.mk (below_then H5.out H5.out.size hb)
               clear gn hb)
            | (go_at_call 143; refine (close_calls g hi3 lo3 ex3 wd f low high mo3 neg _ F5.out Z.out.1 Z.out.2.1 Z.out.2.2 FZ.out ZC.out IC.out CC.out).mono ?_
               rintro e w6 ⟨n, rfl, gn, ho⟩
               have GN := Aside0.mk gn
               have H6 := Aside0.mk (og_lift H5.out H5.out.size G.out ho)
               clear gn ho)
            | fail)
          all_goals
            refine bodyPost_ret (v := .int .u64 n) (by simp [results, Tryz.results123, go_sem]) rfl ?_
            exact ⟨n, rfl, GN.out, H6.out⟩
        exact AllReadyH.nil
      exact AllReadyH.nil
    exact AllReadyH.nil
  refine AllReadyH.cons (o := ?ob50) ?hb50 (fun K hK => ?sb50) ?mb50
  case hb50 => simp only [g1, g2, g3]; rfl
  case sb50 =>
    have c2 : Wd.cell? ⟨g, 2, none⟩ = some (.int .i64 ex') := (blk_cell F2.out 2).trans rfl
    go_simp
    clear c2
    refine hK.out _ _ (⟨(blk_cell F2.out 5).trans rfl, (blk_cell F2.out 6).trans rfl⟩) (fun hHeld2 => ?_)
    clear hK K hHeld
    have hHeld := hHeld2
    clear hHeld2
    (try simp only [Act.put, g4, g5, g6])
    refine tk (i := 14) ?_
    (try simp only [Act.put, g4, g5, g6])
    refine wpAnyH_ready (rs := [3]) (by kernel_rfl) (by simp) ?_
    refine AllReadyH.cons (o := ?ob51) ?hb51 (fun K hK => ?sb51) ?mb51
    case hb51 => simp only [g1, g2, g3]; rfl
    case sb51 =>
      have c0 : Wd.cell? ⟨g, 0, none⟩ = some (.int .u64 hi') := (blk_cell F2.out 0).trans rfl
      have c1 : Wd.cell? ⟨g, 1, none⟩ = some (.int .u64 lo') := (blk_cell F2.out 1).trans rfl
      go_simp
      clear c0 c1
      refine hK.out _ _ (⟨(blk_cell F2.out 5).trans rfl, (blk_cell F2.out 6).trans rfl⟩) (fun hHeld2 => ?_)
      clear hK K hHeld
      have hHeld := hHeld2
      clear hHeld2
      (try simp only [Act.put, g4, g5, g6])
      refine wpAnyH_ready (rs := [4]) (by kernel_rfl) (by simp) ?_
      refine AllReadyH.cons (o := ?ob52) ?hb52 (fun K hK => ?sb52) ?mb52
      case hb52 => simp only [g1, g2, g3]; rfl
      case sb52 =>
        go_simp
        refine (Len_calls hi' lo' _ X.out.1 X.out.2.1).mono ?_
        rintro e w46 ⟨r, rfl, hr0, hr1, hb⟩
        have F46 := Aside0.mk ((hb.block _ (blk_lt F2.out)).trans F2.out)
        have H46 := Aside0.mk (below_then H2.out H2.out.size hb)
        clear hb hr0 hr1
        refine hK.out _ _ (⟨(blk_cell F46.out 5).trans rfl, (blk_cell F46.out 6).trans rfl⟩) (fun hHeld2 => ?_)
        clear hK K hHeld
        have hHeld := hHeld2
        clear hHeld2
        (try simp only [Act.put, g4, g5, g6])
        refine tk (i := 7) ?_
        (try simp only [Act.put, g4, g5, g6])
        refine tk (i := 8) ?_
        (try simp only [Act.put, g4, g5, g6])
        refine tk (i := 15) ?_
        (try simp only [Act.put, g4, g5, g6])
        refine wpAnyH_ready (rs := [16]) (by kernel_rfl) (by simp) ?_
        refine AllReadyH.cons (o := ?ob53) ?hb53 (fun K hK => ?sb53) ?mb53
        case hb53 => simp only [g1, g2, g3]; rfl
        case sb53 =>
          go_simp
          refine (nearest_calls g hi' lo' ex' wd f low high mo' neg _ F46.out X.out.1 X.out.2.1 X.out.2.2 _ (i64_max (i64_wrap _) (i64_wrap _))).mono ?_
          rintro e w4 ⟨rfl, hi2, lo2, ex2, mo2, y1, y2, y3, F4', H4'⟩
          have F4 := Aside0.mk F4'
          have H4 := Aside0.mk (og_lift H46.out H46.out.size G.out H4')
          have Y := Aside0.mk (And.intro y1 (And.intro y2 y3))
          clear y1 y2 y3 F4' H4'
          refine hK.out _ _ (⟨(blk_cell F4.out 5).trans rfl, (blk_cell F4.out 6).trans rfl⟩) (fun hHeld2 => ?_)
          clear hK K hHeld
          have hHeld := hHeld2
          clear hHeld2
          (try simp only [Act.put, g4, g5, g6])
          refine wpAnyH_done (by kernel_rfl) ?_ _
          go_wp2_with (first
            | (go_at_call 142; refine (raise_calls g hi2 lo2 ex2 wd f low high mo2 neg _ F4.out Y.out.1 Y.out.2.1 Y.out.2.2).mono ?_
               rintro e w5 ⟨⟨b, rfl⟩, hi3, lo3, ex3, mo3, y1, y2, y3, F5', H5'⟩
               have F5 := Aside0.mk F5'
               have H5 := Aside0.mk (og_lift H4.out H4.out.size G.out H5')
               have Z := Aside0.mk (And.intro y1 (And.intro y2 y3))
               clear y1 y2 y3 F5' H5')
            | (go_at_call 93; refine (IC.out _ _).mono ?_
               rintro e w6 ⟨n, rfl, gn, hb⟩
               have GN := Aside0.mk gn
               have H6 := Aside0.mk (below_then H5.out H5.out.size hb)
               clear gn hb)
            | (go_at_call 143; refine (close_calls g hi3 lo3 ex3 wd f low high mo3 neg _ F5.out Z.out.1 Z.out.2.1 Z.out.2.2 FZ.out ZC.out IC.out CC.out).mono ?_
               rintro e w6 ⟨n, rfl, gn, ho⟩
               have GN := Aside0.mk gn
               have H6 := Aside0.mk (og_lift H5.out H5.out.size G.out ho)
               clear gn ho)
            | fail)
          all_goals
            refine bodyPost_ret (v := .int .u64 n) (by simp [results, Tryz.results123, go_sem]) rfl ?_
            exact ⟨n, rfl, GN.out, H6.out⟩
        exact AllReadyH.nil
      exact AllReadyH.nil
    exact AllReadyH.nil
  exact AllReadyH.nil
set_option maxRecDepth 100000 in
set_option maxHeartbeats 4000000 in
theorem Pack_main_c (wd f low high : Int) (neg : Bool) (hi lo ex : Int) (w : World) (u1 : u64 hi) (u2 : u64 lo) (i1 : i64r ex) (f0 : 0 ≤ f)
    (AC : ∀ W, Calls Tryz.prog 137 #[.int .i64 wd, .bool neg, .agg #[.int .u64 hi, .int .u64 lo, .int .i64 ex, .bool true]] W fun e w' => e = .returned (.tuple #[.agg #[.int .u64 hi, .int .u64 lo, .int .i64 ex, .bool true, .int .i64 wd, .int .i64 f, .int .i64 low, .int .i64 high, .bool neg], .bool true]) ∧ Below W.heap.size W w')
    (ZC : ∀ b W, Calls Tryz.prog 92 #[.int .i64 wd, .bool b] W (GoodP W wd)) (IC : ∀ b W, Calls Tryz.prog 93 #[.int .i64 wd, .bool b] W (GoodP W wd))
    (CC : ∀ b ex s W, ex ≤ high → -9223372036854775808 ≤ ex → u64 s → Calls Tryz.prog 156 #[.int .i64 wd, .agg #[.bool b, .int .i64 1, .int .i64 ex, .int .u64 s]] W fun e w' => ∃ n er, e = .returned (.tuple #[.int .u64 n, .int .i64 er]) ∧ Good wd n ∧ Below W.heap.size W w') (hs : ((hi == 0) && (lo == 0)) = true) (hx : ex ≤ 1048576) (hy : -1048576 ≤ ex) : Calls Tryz.prog 123 #[.int .i64 wd, .bool neg, .agg #[.int .u64 hi, .int .u64 lo], .int .i64 ex, .bool true] w (GoodP w wd) := by
  have d1 : decide (ex > 1048576) = false := decide_eq_false (by omega)
  have d2 : decide (ex < -1048576) = false := decide_eq_false (by omega)
  clear hx hy
  have UU := Aside0.mk (And.intro u1 (And.intro u2 i1))
  have FZ := Aside0.mk f0
  clear u1 u2 i1 f0
  have AC := Aside0.mk AC
  have ZC := Aside0.mk ZC
  have IC := Aside0.mk IC
  have CC := Aside0.mk CC
  have eq := eq98
  have eg : Tryz.prog.eqGuardType Tryz.prog.depth 98 = false := by kernel_rfl
  have q0 := heap_alloc_new w (.cells #[.int .u64 hi, .int .u64 lo] 98)
  have Q0 := Aside0.mk q0
  have B0 := Aside0.mk (below_alloc (Below.refl w.heap.size w) (.cells #[.int .u64 hi, .int .u64 lo] 98))
  clear q0
  go_enter Tryz.func123, Tryz.ntmps123
  go_upto_if 54 with (first
    | (go_at_call 137; refine (AC.out _).mono ?_
       rintro e w1 ⟨rfl, hb⟩
       have qb := (hb.block _ (blk_lt Q0.out)).trans Q0.out
       have HB := Aside0.mk (below_then B0.out B0.out.size hb)
       have QB := Aside0.mk ((heap_alloc_old (.cells #[.int .u64 hi, .int .u64 lo, .int .i64 ex, .bool true, .int .i64 wd, .int .i64 f, .int .i64 low, .int .i64 high, .bool neg] 118) (blk_lt qb)).trans qb)
       have QG := Aside0.mk (heap_alloc_new w1 (.cells #[.int .u64 hi, .int .u64 lo, .int .i64 ex, .bool true, .int .i64 wd, .int .i64 f, .int .i64 low, .int .i64 high, .bool neg] 118))
       have cb0 := (blk_cell QB.out 0).trans rfl
       have cb1 := (blk_cell QB.out 1).trans rfl
       clear hb qb)
    | (go_at_call 138; refine (Len_calls hi lo _ UU.out.1 UU.out.2.1).mono ?_
       rintro e w2 ⟨r, rfl, hr0, hr1, hb⟩
       have qb := (hb.block _ (blk_lt QB.out)).trans QB.out
       have QB2 := Aside0.mk qb
       have QG2 := Aside0.mk ((hb.block _ (blk_lt QG.out)).trans QG.out)
       have H2 := Aside0.mk (below_then (HB.out.alloc HB.out.size _) (HB.out.alloc HB.out.size _).size hb)
       clear cb0 cb1
       have cb0 := (blk_cell qb 0).trans rfl
       have cb1 := (blk_cell qb 1).trans rfl
       clear hb qb hr0 hr1)
    | fail)
  go_cut [11] from 14 (fun s11 wc => ∃ (g : Nat) (hi' lo' ex' : Int) (mo' : Bool), s11 = .pointer (some ⟨g, 0, none⟩) ∧ w.heap.size ≤ g ∧ Tn.u64 hi' ∧ Tn.u64 lo' ∧ i64r ex' ∧ wc.heap[g]? = some (TB hi' lo' ex' mo' wd f low high neg) ∧ Below w.heap.size w wc)
  case first =>
    by_cases hr : r < 127
    · have d5 : decide (r < 127) = true := decide_eq_true hr
      obtain ⟨ex5, wx, hx5⟩ := i64_at (ex - 1)
      have X5 := Aside0.mk hx5
      clear hx5
      go_wp2_with (first
        | (go_at_call 140; refine (Left_calls hi lo 1 _ UU.out.1 UU.out.2.1 (by decide) (by decide)).mono ?_
           rintro e w3 ⟨h3, l3, rfl, v1, v2, hb⟩
           have V3 := Aside0.mk (And.intro v1 v2)
           have QG3 := Aside0.mk ((hb.block _ (blk_lt QG2.out)).trans QG2.out)
           have H3 := Aside0.mk (below_then H2.out H2.out.size hb)
           clear v1 v2 hb cb0 cb1)
        | (go_at_call 124; refine (Of_calls 1 _).mono ?_
           rintro e w4 ⟨rfl, hb⟩
           have QG4 := Aside0.mk ((hb.block _ (blk_lt QG3.out)).trans QG3.out)
           have H4 := Aside0.mk (below_then H3.out H3.out.size hb)
           clear hb)
        | (go_at_call 139; refine (Add_calls h3 l3 0 1 _ V3.out.1 V3.out.2 (by unfold Tn.u64; decide) (by unfold Tn.u64; decide)).mono ?_
           rintro e w5 ⟨h5, l5, rfl, v1, v2, hb⟩
           have V5 := Aside0.mk (And.intro v1 v2)
           have QG5 := Aside0.mk ((hb.block _ (blk_lt QG4.out)).trans QG4.out)
           have H5 := Aside0.mk (below_then H4.out H4.out.size hb)
           have GG := Aside0.mk (show w.heap.size ≤ w1.heap.size from HB.out.size)
           have c0 : w5.cell? ⟨w1.heap.size, 0, none⟩ = some (.int .u64 hi) := (blk_cell QG5.out 0).trans rfl
           have z0 : w5.frozen? ⟨w1.heap.size, 0, none⟩ = false := blk_frozen QG5.out 0
           have c1 : w5.cell? ⟨w1.heap.size, 1, none⟩ = some (.int .u64 lo) := (blk_cell QG5.out 1).trans rfl
           have z1 : w5.frozen? ⟨w1.heap.size, 1, none⟩ = false := blk_frozen QG5.out 1
           have c2 : w5.cell? ⟨w1.heap.size, 2, none⟩ = some (.int .i64 ex) := (blk_cell QG5.out 2).trans rfl
           have z2 : w5.frozen? ⟨w1.heap.size, 2, none⟩ = false := blk_frozen QG5.out 2
           have c3 : w5.cell? ⟨w1.heap.size, 3, none⟩ = some (.bool true) := (blk_cell QG5.out 3).trans rfl
           have z3 : w5.frozen? ⟨w1.heap.size, 3, none⟩ = false := blk_frozen QG5.out 3
           clear v1 v2 hb)
        | fail)
      go_meet
      case rel => exact ⟨w1.heap.size, h5, l5, ex5, false, rfl, GG.out, V5.out.1, V5.out.2, X5.out, by have P := blk_set (blk_set (blk_set (blk_set QG5.out 0 (.int .u64 h5)) 1 (.int .u64 l5)) 2 (.int .i64 ex5)) 3 (.bool false); simpa using P, bset (bset (bset (bset H5.out GG.out 0 _) GG.out 1 _) GG.out 2 _) GG.out 3 _⟩
    · have d5 : decide (r < 127) = false := decide_eq_false hr
      go_wp2
      go_meet
      case rel => exact ⟨w1.heap.size, hi, lo, ex, true, rfl, HB.out.size, UU.out.1, UU.out.2.1, UU.out.2.2, QG2.out, H2.out⟩
  obtain ⟨g, hi', lo', ex', mo', rfl, hg, x1, x2, x3, F2, H2⟩ := hcut
  have G := Aside0.mk hg
  have X := Aside0.mk (And.intro x1 (And.intro x2 x3))
  have F2 := Aside0.mk F2
  have H2 := Aside0.mk H2
  clear hg x1 x2 x3
  have c0 : wc.cell? ⟨g, 0, none⟩ = some (.int .u64 hi') := (blk_cell F2.out 0).trans rfl
  have c1 : wc.cell? ⟨g, 1, none⟩ = some (.int .u64 lo') := (blk_cell F2.out 1).trans rfl
  have c2 : wc.cell? ⟨g, 2, none⟩ = some (.int .i64 ex') := (blk_cell F2.out 2).trans rfl
  have c5 : wc.cell? ⟨g, 5, none⟩ = some (.int .i64 f) := (blk_cell F2.out 5).trans rfl
  have c6 : wc.cell? ⟨g, 6, none⟩ = some (.int .i64 low) := (blk_cell F2.out 6).trans rfl
  go_wp2
  clear c0 c1 c2 c5 c6
  have F2 := Aside0.mk (show wc.drew.heap[g]? = _ from F2.out)
  have H2 := Aside0.mk (below_drew H2.out)
  refine wp_region_held_drew (S := fun W => W.cell? ⟨g, 5, none⟩ = some (.int .i64 f) ∧ W.cell? ⟨g, 6, none⟩ = some (.int .i64 low)) (by kernel_rfl) (⟨(blk_cell F2.out 5).trans rfl, (blk_cell F2.out 6).trans rfl⟩) (fun hHeld => ?_)
  generalize wc.drew = Wd at *
  refine tk (i := 0) ?_
  (try simp only [Act.put, g4, g5, g6])
  refine tk (i := 1) ?_
  (try simp only [Act.put, g4, g5, g6])
  refine tk (i := 2) ?_
  (try simp only [Act.put, g4, g5, g6])
  refine tk (i := 5) ?_
  (try simp only [Act.put, g4, g5, g6])
  refine tk (i := 6) ?_
  (try simp only [Act.put, g4, g5, g6])
  refine tk (i := 9) ?_
  (try simp only [Act.put, g4, g5, g6])
  refine tk (i := 10) ?_
  (try simp only [Act.put, g4, g5, g6])
  refine tk (i := 11) ?_
  (try simp only [Act.put, g4, g5, g6])
  refine tk (i := 12) ?_
  (try simp only [Act.put, g4, g5, g6])
  refine wpAnyH_ready (rs := [3, 13]) (by kernel_rfl) (by simp) ?_
  refine AllReadyH.cons (o := ?ob54) ?hb54 (fun K hK => ?sb54) ?mb54
  case hb54 => simp only [g1, g2, g3]; rfl
  case sb54 =>
    have c0 : Wd.cell? ⟨g, 0, none⟩ = some (.int .u64 hi') := (blk_cell F2.out 0).trans rfl
    have c1 : Wd.cell? ⟨g, 1, none⟩ = some (.int .u64 lo') := (blk_cell F2.out 1).trans rfl
    go_simp
    clear c0 c1
    refine hK.out _ _ (⟨(blk_cell F2.out 5).trans rfl, (blk_cell F2.out 6).trans rfl⟩) (fun hHeld2 => ?_)
    clear hK K hHeld
    have hHeld := hHeld2
    clear hHeld2
    (try simp only [Act.put, g4, g5, g6])
    refine wpAnyH_ready (rs := [4, 13]) (by kernel_rfl) (by simp) ?_
    refine AllReadyH.cons (o := ?ob55) ?hb55 (fun K hK => ?sb55) ?mb55
    case hb55 => simp only [g1, g2, g3]; rfl
    case sb55 =>
      go_simp
      refine (Len_calls hi' lo' _ X.out.1 X.out.2.1).mono ?_
      rintro e w48 ⟨r, rfl, hr0, hr1, hb⟩
      have F48 := Aside0.mk ((hb.block _ (blk_lt F2.out)).trans F2.out)
      have H48 := Aside0.mk (below_then H2.out H2.out.size hb)
      clear hb hr0 hr1
      refine hK.out _ _ (⟨(blk_cell F48.out 5).trans rfl, (blk_cell F48.out 6).trans rfl⟩) (fun hHeld2 => ?_)
      clear hK K hHeld
      have hHeld := hHeld2
      clear hHeld2
      (try simp only [Act.put, g4, g5, g6])
      refine tk (i := 7) ?_
      (try simp only [Act.put, g4, g5, g6])
      refine tk (i := 8) ?_
      (try simp only [Act.put, g4, g5, g6])
      refine wpAnyH_ready (rs := [13]) (by kernel_rfl) (by simp) ?_
      refine AllReadyH.cons (o := ?ob56) ?hb56 (fun K hK => ?sb56) ?mb56
      case hb56 => simp only [g1, g2, g3]; rfl
      case sb56 =>
        have c2 : w48.cell? ⟨g, 2, none⟩ = some (.int .i64 ex') := (blk_cell F48.out 2).trans rfl
        go_simp
        clear c2
        refine hK.out _ _ (⟨(blk_cell F48.out 5).trans rfl, (blk_cell F48.out 6).trans rfl⟩) (fun hHeld2 => ?_)
        clear hK K hHeld
        have hHeld := hHeld2
        clear hHeld2
        (try simp only [Act.put, g4, g5, g6])
        refine tk (i := 14) ?_
        (try simp only [Act.put, g4, g5, g6])
        refine tk (i := 15) ?_
        (try simp only [Act.put, g4, g5, g6])
        refine wpAnyH_ready (rs := [16]) (by kernel_rfl) (by simp) ?_
        refine AllReadyH.cons (o := ?ob57) ?hb57 (fun K hK => ?sb57) ?mb57
        case hb57 => simp only [g1, g2, g3]; rfl
        case sb57 =>
          go_simp
          refine (nearest_calls g hi' lo' ex' wd f low high mo' neg _ F48.out X.out.1 X.out.2.1 X.out.2.2 _ (i64_max (i64_wrap _) (i64_wrap _))).mono ?_
          rintro e w4 ⟨rfl, hi2, lo2, ex2, mo2, y1, y2, y3, F4', H4'⟩
          have F4 := Aside0.mk F4'
          have H4 := Aside0.mk (og_lift H48.out H48.out.size G.out H4')
          have Y := Aside0.mk (And.intro y1 (And.intro y2 y3))
          clear y1 y2 y3 F4' H4'
          refine hK.out _ _ (⟨(blk_cell F4.out 5).trans rfl, (blk_cell F4.out 6).trans rfl⟩) (fun hHeld2 => ?_)
          clear hK K hHeld
          have hHeld := hHeld2
          clear hHeld2
          (try simp only [Act.put, g4, g5, g6])
          refine wpAnyH_done (by kernel_rfl) ?_ _
          go_wp2_with (first
            | (go_at_call 142; refine (raise_calls g hi2 lo2 ex2 wd f low high mo2 neg _ F4.out Y.out.1 Y.out.2.1 Y.out.2.2).mono ?_
               rintro e w5 ⟨⟨b, rfl⟩, hi3, lo3, ex3, mo3, y1, y2, y3, F5', H5'⟩
               have F5 := Aside0.mk F5'
               have H5 := Aside0.mk (og_lift H4.out H4.out.size G.out H5')
               have Z := Aside0.mk (And.intro y1 (And.intro y2 y3))
               clear y1 y2 y3 F5' H5')
            | (go_at_call 93; refine (IC.out _ _).mono ?_
               rintro e w6 ⟨n, rfl, gn, hb⟩
               have GN := Aside0.mk gn
               have H6 := Aside0.mk (below_then H5.out H5.out.size hb)
               clear gn hb)
            | (go_at_call 143; refine (close_calls g hi3 lo3 ex3 wd f low high mo3 neg _ F5.out Z.out.1 Z.out.2.1 Z.out.2.2 FZ.out ZC.out IC.out CC.out).mono ?_
               rintro e w6 ⟨n, rfl, gn, ho⟩
               have GN := Aside0.mk gn
               have H6 := Aside0.mk (og_lift H5.out H5.out.size G.out ho)
               clear gn ho)
            | fail)
          all_goals
            refine bodyPost_ret (v := .int .u64 n) (by simp [results, Tryz.results123, go_sem]) rfl ?_
            exact ⟨n, rfl, GN.out, H6.out⟩
        exact AllReadyH.nil
      exact AllReadyH.nil
    refine AllReadyH.cons (o := ?ob58) ?hb58 (fun K hK => ?sb58) ?mb58
    case hb58 => simp only [g1, g2, g3]; rfl
    case sb58 =>
      have c2 : Wd.cell? ⟨g, 2, none⟩ = some (.int .i64 ex') := (blk_cell F2.out 2).trans rfl
      go_simp
      clear c2
      refine hK.out _ _ (⟨(blk_cell F2.out 5).trans rfl, (blk_cell F2.out 6).trans rfl⟩) (fun hHeld2 => ?_)
      clear hK K hHeld
      have hHeld := hHeld2
      clear hHeld2
      (try simp only [Act.put, g4, g5, g6])
      refine tk (i := 14) ?_
      (try simp only [Act.put, g4, g5, g6])
      refine wpAnyH_ready (rs := [4]) (by kernel_rfl) (by simp) ?_
      refine AllReadyH.cons (o := ?ob59) ?hb59 (fun K hK => ?sb59) ?mb59
      case hb59 => simp only [g1, g2, g3]; rfl
      case sb59 =>
        go_simp
        refine (Len_calls hi' lo' _ X.out.1 X.out.2.1).mono ?_
        rintro e w50 ⟨r, rfl, hr0, hr1, hb⟩
        have F50 := Aside0.mk ((hb.block _ (blk_lt F2.out)).trans F2.out)
        have H50 := Aside0.mk (below_then H2.out H2.out.size hb)
        clear hb hr0 hr1
        refine hK.out _ _ (⟨(blk_cell F50.out 5).trans rfl, (blk_cell F50.out 6).trans rfl⟩) (fun hHeld2 => ?_)
        clear hK K hHeld
        have hHeld := hHeld2
        clear hHeld2
        (try simp only [Act.put, g4, g5, g6])
        refine tk (i := 7) ?_
        (try simp only [Act.put, g4, g5, g6])
        refine tk (i := 8) ?_
        (try simp only [Act.put, g4, g5, g6])
        refine tk (i := 15) ?_
        (try simp only [Act.put, g4, g5, g6])
        refine wpAnyH_ready (rs := [16]) (by kernel_rfl) (by simp) ?_
        refine AllReadyH.cons (o := ?ob60) ?hb60 (fun K hK => ?sb60) ?mb60
        case hb60 => simp only [g1, g2, g3]; rfl
        case sb60 =>
          go_simp
          refine (nearest_calls g hi' lo' ex' wd f low high mo' neg _ F50.out X.out.1 X.out.2.1 X.out.2.2 _ (i64_max (i64_wrap _) (i64_wrap _))).mono ?_
          rintro e w4 ⟨rfl, hi2, lo2, ex2, mo2, y1, y2, y3, F4', H4'⟩
          have F4 := Aside0.mk F4'
          have H4 := Aside0.mk (og_lift H50.out H50.out.size G.out H4')
          have Y := Aside0.mk (And.intro y1 (And.intro y2 y3))
          clear y1 y2 y3 F4' H4'
          refine hK.out _ _ (⟨(blk_cell F4.out 5).trans rfl, (blk_cell F4.out 6).trans rfl⟩) (fun hHeld2 => ?_)
          clear hK K hHeld
          have hHeld := hHeld2
          clear hHeld2
          (try simp only [Act.put, g4, g5, g6])
          refine wpAnyH_done (by kernel_rfl) ?_ _
          go_wp2_with (first
            | (go_at_call 142; refine (raise_calls g hi2 lo2 ex2 wd f low high mo2 neg _ F4.out Y.out.1 Y.out.2.1 Y.out.2.2).mono ?_
               rintro e w5 ⟨⟨b, rfl⟩, hi3, lo3, ex3, mo3, y1, y2, y3, F5', H5'⟩
               have F5 := Aside0.mk F5'
               have H5 := Aside0.mk (og_lift H4.out H4.out.size G.out H5')
               have Z := Aside0.mk (And.intro y1 (And.intro y2 y3))
               clear y1 y2 y3 F5' H5')
            | (go_at_call 93; refine (IC.out _ _).mono ?_
               rintro e w6 ⟨n, rfl, gn, hb⟩
               have GN := Aside0.mk gn
               have H6 := Aside0.mk (below_then H5.out H5.out.size hb)
               clear gn hb)
            | (go_at_call 143; refine (close_calls g hi3 lo3 ex3 wd f low high mo3 neg _ F5.out Z.out.1 Z.out.2.1 Z.out.2.2 FZ.out ZC.out IC.out CC.out).mono ?_
               rintro e w6 ⟨n, rfl, gn, ho⟩
               have GN := Aside0.mk gn
               have H6 := Aside0.mk (og_lift H5.out H5.out.size G.out ho)
               clear gn ho)
            | fail)
          all_goals
            refine bodyPost_ret (v := .int .u64 n) (by simp [results, Tryz.results123, go_sem]) rfl ?_
            exact ⟨n, rfl, GN.out, H6.out⟩
        exact AllReadyH.nil
      exact AllReadyH.nil
    exact AllReadyH.nil
  refine AllReadyH.cons (o := ?ob61) ?hb61 (fun K hK => ?sb61) ?mb61
  case hb61 => simp only [g1, g2, g3]; rfl
  case sb61 =>
    have c2 : Wd.cell? ⟨g, 2, none⟩ = some (.int .i64 ex') := (blk_cell F2.out 2).trans rfl
    go_simp
    clear c2
    refine hK.out _ _ (⟨(blk_cell F2.out 5).trans rfl, (blk_cell F2.out 6).trans rfl⟩) (fun hHeld2 => ?_)
    clear hK K hHeld
    have hHeld := hHeld2
    clear hHeld2
    (try simp only [Act.put, g4, g5, g6])
    refine tk (i := 14) ?_
    (try simp only [Act.put, g4, g5, g6])
    refine wpAnyH_ready (rs := [3]) (by kernel_rfl) (by simp) ?_
    refine AllReadyH.cons (o := ?ob62) ?hb62 (fun K hK => ?sb62) ?mb62
    case hb62 => simp only [g1, g2, g3]; rfl
    case sb62 =>
      have c0 : Wd.cell? ⟨g, 0, none⟩ = some (.int .u64 hi') := (blk_cell F2.out 0).trans rfl
      have c1 : Wd.cell? ⟨g, 1, none⟩ = some (.int .u64 lo') := (blk_cell F2.out 1).trans rfl
      go_simp
      clear c0 c1
      refine hK.out _ _ (⟨(blk_cell F2.out 5).trans rfl, (blk_cell F2.out 6).trans rfl⟩) (fun hHeld2 => ?_)
      clear hK K hHeld
      have hHeld := hHeld2
      clear hHeld2
      (try simp only [Act.put, g4, g5, g6])
      refine wpAnyH_ready (rs := [4]) (by kernel_rfl) (by simp) ?_
      refine AllReadyH.cons (o := ?ob63) ?hb63 (fun K hK => ?sb63) ?mb63
      case hb63 => simp only [g1, g2, g3]; rfl
      case sb63 =>
        go_simp
        refine (Len_calls hi' lo' _ X.out.1 X.out.2.1).mono ?_
        rintro e w52 ⟨r, rfl, hr0, hr1, hb⟩
        have F52 := Aside0.mk ((hb.block _ (blk_lt F2.out)).trans F2.out)
        have H52 := Aside0.mk (below_then H2.out H2.out.size hb)
        clear hb hr0 hr1
        refine hK.out _ _ (⟨(blk_cell F52.out 5).trans rfl, (blk_cell F52.out 6).trans rfl⟩) (fun hHeld2 => ?_)
        clear hK K hHeld
        have hHeld := hHeld2
        clear hHeld2
        (try simp only [Act.put, g4, g5, g6])
        refine tk (i := 7) ?_
        (try simp only [Act.put, g4, g5, g6])
        refine tk (i := 8) ?_
        (try simp only [Act.put, g4, g5, g6])
        refine tk (i := 15) ?_
        (try simp only [Act.put, g4, g5, g6])
        refine wpAnyH_ready (rs := [16]) (by kernel_rfl) (by simp) ?_
        refine AllReadyH.cons (o := ?ob64) ?hb64 (fun K hK => ?sb64) ?mb64
        case hb64 => simp only [g1, g2, g3]; rfl
        case sb64 =>
          go_simp
          refine (nearest_calls g hi' lo' ex' wd f low high mo' neg _ F52.out X.out.1 X.out.2.1 X.out.2.2 _ (i64_max (i64_wrap _) (i64_wrap _))).mono ?_
          rintro e w4 ⟨rfl, hi2, lo2, ex2, mo2, y1, y2, y3, F4', H4'⟩
          have F4 := Aside0.mk F4'
          have H4 := Aside0.mk (og_lift H52.out H52.out.size G.out H4')
          have Y := Aside0.mk (And.intro y1 (And.intro y2 y3))
          clear y1 y2 y3 F4' H4'
          refine hK.out _ _ (⟨(blk_cell F4.out 5).trans rfl, (blk_cell F4.out 6).trans rfl⟩) (fun hHeld2 => ?_)
          clear hK K hHeld
          have hHeld := hHeld2
          clear hHeld2
          (try simp only [Act.put, g4, g5, g6])
          refine wpAnyH_done (by kernel_rfl) ?_ _
          go_wp2_with (first
            | (go_at_call 142; refine (raise_calls g hi2 lo2 ex2 wd f low high mo2 neg _ F4.out Y.out.1 Y.out.2.1 Y.out.2.2).mono ?_
               rintro e w5 ⟨⟨b, rfl⟩, hi3, lo3, ex3, mo3, y1, y2, y3, F5', H5'⟩
               have F5 := Aside0.mk F5'
               have H5 := Aside0.mk (og_lift H4.out H4.out.size G.out H5')
               have Z := Aside0.mk (And.intro y1 (And.intro y2 y3))
               clear y1 y2 y3 F5' H5')
            | (go_at_call 93; refine (IC.out _ _).mono ?_
               rintro e w6 ⟨n, rfl, gn, hb⟩
               have GN := Aside0.mk gn
               have H6 := Aside0.mk (below_then H5.out H5.out.size hb)
               clear gn hb)
            | (go_at_call 143; refine (close_calls g hi3 lo3 ex3 wd f low high mo3 neg _ F5.out Z.out.1 Z.out.2.1 Z.out.2.2 FZ.out ZC.out IC.out CC.out).mono ?_
               rintro e w6 ⟨n, rfl, gn, ho⟩
               have GN := Aside0.mk gn
               have H6 := Aside0.mk (og_lift H5.out H5.out.size G.out ho)
               clear gn ho)
            | fail)
          all_goals
            refine bodyPost_ret (v := .int .u64 n) (by simp [results, Tryz.results123, go_sem]) rfl ?_
            exact ⟨n, rfl, GN.out, H6.out⟩
        exact AllReadyH.nil
      exact AllReadyH.nil
    exact AllReadyH.nil
  exact AllReadyH.nil
end Go.Proofs.YticonaahlplbjaaGreatDoor.Tn
