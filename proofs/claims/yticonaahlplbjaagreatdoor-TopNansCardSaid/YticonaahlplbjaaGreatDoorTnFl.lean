/- What the operations on floats share, for both widths; sum.infinite and sum.parts. -/
import Derived.Test.YticonaahlplbjaaGreatDoorTnNarrow
import Derived.Test.YticonaahlplbjaaGreatDoorTnOpen32
import Derived.Test.YticonaahlplbjaaGreatDoorTnOpen64
namespace Go.Proofs.YticonaahlplbjaaGreatDoor.Tn
open Go.RowKit Go.Proofs.YticonaahlplbjaaGreatDoor.PTopNans Go.Proofs.YticonaahlplbjaaGreatDoorW.PrintWords Go.Proofs.YticonaahlplbjaaGreatDoorW.PrintLast Go.Proofs.YticonaahlplbjaaGreatDoorW.PrintMore
set_option linter.unusedVariables false
set_option linter.unusedSimpArgs false
/-- A kind is one of four. -/
def Kd4 (k : Int) : Prop := k = 0 ∨ k = 1 ∨ k = 2 ∨ k = 3
structure Fl (wd : Int) : Prop where
  wid : wd = 32 ∨ wd = 64
  cn : Good wd (cN wd)
  Z : ∀ b W, Calls Tryz.prog 92 #[.int .i64 wd, .bool b] W (GoodP W wd)
  I : ∀ b W, Calls Tryz.prog 93 #[.int .i64 wd, .bool b] W (GoodP W wd)
  N : ∀ W, Calls Tryz.prog 7 #[.int .i64 wd] W fun e w' => e = .returned (.int .u64 (cN wd)) ∧ Below W.heap.size W w'
  R : ∀ neg k ex s W, Kd4 k → u64 s → i64r ex → Calls Tryz.prog 104 #[.int .i64 wd, .agg #[.bool neg, .int .i64 k, .int .i64 ex, .int .u64 s]] W (GoodP W wd)
  P : ∀ neg mo hi lo ex W, u64 hi → u64 lo → i64r ex → Calls Tryz.prog 123 #[.int .i64 wd, .bool neg, .agg #[.int .u64 hi, .int .u64 lo], .int .i64 ex, .bool mo] W (GoodP W wd)
  O : ∀ n W, u64 n → Calls Tryz.prog 23 #[.int .i64 wd, .int .u64 n] W fun e w' => ∃ neg k ex s, e = .returned (.agg #[.bool neg, .int .i64 k, .int .i64 ex, .int .u64 s]) ∧ Parts wd n neg k ex s ∧ Below W.heap.size W w'
theorem parts_rng {wd n : Int} {neg : Bool} {k ex s : Int} (h : Parts wd n neg k ex s) : Kd4 k ∧ i64r ex ∧ u64 s := by
  refine ⟨h.kind, ?_⟩
  by_cases c : k = 1
  · have := h.fin c
    unfold i64r u64
    omega
  · have := h.non c
    unfold i64r u64
    omega
theorem fl32 : Fl 32 := ⟨.inl rfl, cN32_good, Zero32_good, Inf32_good, Nan32, fun neg k ex s W => Narrow32 neg k ex s W, fun neg mo hi lo ex W => Pack32 neg mo hi lo ex W, fun n W h => Open32 n W h.1 h.2⟩
theorem fl64 : Fl 64 := ⟨.inr rfl, cN64_good, Zero64_good, Inf64_good, Nan64, fun neg k ex s W => Narrow64 neg k ex s W, fun neg mo hi lo ex W => Pack64 neg mo hi lo ex W, fun n W h => Open64 n W h.1 h.2⟩
set_option maxRecDepth 100000 in
set_option maxHeartbeats 4000000 in
theorem infinite_calls {wd : Int} (C : Fl wd) (n1 n2 : Bool) (k1 k2 x1 x2 s1 s2 : Int) (w : World) : Calls Tryz.prog 127 #[.int .i64 wd, .agg #[.bool n1, .int .i64 k1, .int .i64 x1, .int .u64 s1], .agg #[.bool n2, .int .i64 k2, .int .i64 x2, .int .u64 s2]] w (GoodP w wd) := by
  have HB := Aside0.mk ((below_alloc (Below.refl w.heap.size w) (.cells #[.bool n1, .int .i64 k1, .int .i64 x1, .int .u64 s1] 46)).alloc (by rw [World.size_alloc]; omega) (.cells #[.bool n2, .int .i64 k2, .int .i64 x2, .int .u64 s2] 46))
  have C := Aside0.mk C
  have cc : (k1 == 2) = true ∨ (k1 == 2) = false := by cases (k1 == 2) <;> simp
  have cd : (k2 == 2) = true ∨ (k2 == 2) = false := by cases (k2 == 2) <;> simp
  rcases cc with c | c <;> rcases cd with d | d
  all_goals
    go_enter Tryz.func127, Tryz.ntmps127
    go_wp2_with (first
      | (go_at_call 93; refine (C.out.I _ _).mono ?_
         rintro e w1 ⟨n, rfl, gn, hb⟩
         have GN := Aside0.mk gn
         clear gn
         have H1 := Aside0.mk (below_then HB.out HB.out.size hb)
         clear hb)
      | (go_at_call 7; refine (C.out.N _).mono ?_
         rintro e w1 ⟨rfl, hb⟩
         obtain ⟨n, hn⟩ : ∃ n, n = cN wd := ⟨_, rfl⟩
         have GN := Aside0.mk (show Good wd n by rw [hn]; exact C.out.cn)
         have NN := Aside0.mk hn
         rw [← hn]
         clear hn
         have H1 := Aside0.mk (below_then HB.out HB.out.size hb)
         clear hb)
      | fail)
    all_goals
      refine bodyPost_ret (v := .int .u64 n) (by simp [results, Tryz.results127, go_sem]) rfl ?_
      exact ⟨n, rfl, GN.out, H1.out⟩
/-- What an operation on two floats answers: a good float, and the canonical NaN where one of them is a NaN. -/
def Ans (w : World) (wd : Int) (c : Prop) (e : Ending) (w' : World) : Prop := ∃ n, e = .returned (.int .u64 n) ∧ Good wd n ∧ (c → n = cN wd) ∧ Below w.heap.size w w'
theorem GoodP.ans {w : World} {wd : Int} {c : Prop} {e : Ending} {w' : World} (h : GoodP w wd e w') (hc : ¬ c) : Ans w wd c e w' := by
  obtain ⟨n, a, b, d⟩ := h
  exact ⟨n, a, b, fun h => absurd h hc, d⟩
set_option maxRecDepth 100000 in
set_option maxHeartbeats 4000000 in
theorem sum_parts_00 {wd : Int} (C : Fl wd) (FC : ∀ n1 n2 k1 k2 x1 x2 s1 s2 W, u64 s1 → u64 s2 → i64r x1 → i64r x2 → Calls Tryz.prog 128 #[.int .i64 wd, .agg #[.bool n1, .int .i64 k1, .int .i64 x1, .int .u64 s1], .agg #[.bool n2, .int .i64 k2, .int .i64 x2, .int .u64 s2]] W (GoodP W wd))
    (n1 n2 : Bool) (x1 x2 s1 s2 : Int) (w : World) (u1 : u64 s1) (u2 : u64 s2) (i1 : i64r x1) (i2 : i64r x2) : Calls Tryz.prog 96 #[.int .i64 wd, .agg #[.bool n1, .int .i64 0, .int .i64 x1, .int .u64 s1], .agg #[.bool n2, .int .i64 0, .int .i64 x2, .int .u64 s2]] w (Ans w wd ((0 : Int) = 3 ∨ (0 : Int) = 3)) := by
  have HB := Aside0.mk ((below_alloc (Below.refl w.heap.size w) (.cells #[.bool n1, .int .i64 0, .int .i64 x1, .int .u64 s1] 46)).alloc (by rw [World.size_alloc]; omega) (.cells #[.bool n2, .int .i64 0, .int .i64 x2, .int .u64 s2] 46))
  have C := Aside0.mk C
  have FC := Aside0.mk FC
  have UU := Aside0.mk (And.intro u1 (And.intro u2 (And.intro i1 i2)))
  clear u1 u2 i1 i2
  cases n1 <;> cases n2
  all_goals
    go_enter Tryz.func96, Tryz.ntmps96
    go_wp2_with (first
      | (go_at_call 92; refine (C.out.Z _ _).mono ?_
         rintro e w1 ⟨n, rfl, gn, hb⟩
         have GN := Aside0.mk gn
         clear gn
         have H1 := Aside0.mk (below_then HB.out HB.out.size hb)
         clear hb)
      | fail)
    all_goals
      refine bodyPost_ret (v := .int .u64 n) (by simp [results, Tryz.results96, go_sem]) rfl ?_
      exact ⟨n, rfl, GN.out, fun h => absurd h (by decide), H1.out⟩
set_option maxRecDepth 100000 in
set_option maxHeartbeats 4000000 in
theorem sum_parts_01 {wd : Int} (C : Fl wd) (FC : ∀ n1 n2 k1 k2 x1 x2 s1 s2 W, u64 s1 → u64 s2 → i64r x1 → i64r x2 → Calls Tryz.prog 128 #[.int .i64 wd, .agg #[.bool n1, .int .i64 k1, .int .i64 x1, .int .u64 s1], .agg #[.bool n2, .int .i64 k2, .int .i64 x2, .int .u64 s2]] W (GoodP W wd))
    (n1 n2 : Bool) (x1 x2 s1 s2 : Int) (w : World) (u1 : u64 s1) (u2 : u64 s2) (i1 : i64r x1) (i2 : i64r x2) : Calls Tryz.prog 96 #[.int .i64 wd, .agg #[.bool n1, .int .i64 0, .int .i64 x1, .int .u64 s1], .agg #[.bool n2, .int .i64 1, .int .i64 x2, .int .u64 s2]] w (Ans w wd ((0 : Int) = 3 ∨ (1 : Int) = 3)) := by
  have HB := Aside0.mk ((below_alloc (Below.refl w.heap.size w) (.cells #[.bool n1, .int .i64 0, .int .i64 x1, .int .u64 s1] 46)).alloc (by rw [World.size_alloc]; omega) (.cells #[.bool n2, .int .i64 1, .int .i64 x2, .int .u64 s2] 46))
  have C := Aside0.mk C
  have FC := Aside0.mk FC
  have UU := Aside0.mk (And.intro u1 (And.intro u2 (And.intro i1 i2)))
  clear u1 u2 i1 i2
  have K2 := Aside0.mk (show Kd4 1 from .inr (.inl rfl))
  all_goals
    go_enter Tryz.func96, Tryz.ntmps96
    go_wp2_with (first
      | (go_at_call 104; refine (C.out.R n2 _ x2 s2 _ K2.out UU.out.2.1 UU.out.2.2.2).mono ?_
         rintro e w1 ⟨n, rfl, gn, hb⟩
         have GN := Aside0.mk gn
         clear gn
         have H1 := Aside0.mk (below_then HB.out HB.out.size hb)
         clear hb)
      | fail)
    all_goals
      refine bodyPost_ret (v := .int .u64 n) (by simp [results, Tryz.results96, go_sem]) rfl ?_
      exact ⟨n, rfl, GN.out, fun h => absurd h (by decide), H1.out⟩
set_option maxRecDepth 100000 in
set_option maxHeartbeats 4000000 in
theorem sum_parts_02 {wd : Int} (C : Fl wd) (FC : ∀ n1 n2 k1 k2 x1 x2 s1 s2 W, u64 s1 → u64 s2 → i64r x1 → i64r x2 → Calls Tryz.prog 128 #[.int .i64 wd, .agg #[.bool n1, .int .i64 k1, .int .i64 x1, .int .u64 s1], .agg #[.bool n2, .int .i64 k2, .int .i64 x2, .int .u64 s2]] W (GoodP W wd))
    (n1 n2 : Bool) (x1 x2 s1 s2 : Int) (w : World) (u1 : u64 s1) (u2 : u64 s2) (i1 : i64r x1) (i2 : i64r x2) : Calls Tryz.prog 96 #[.int .i64 wd, .agg #[.bool n1, .int .i64 0, .int .i64 x1, .int .u64 s1], .agg #[.bool n2, .int .i64 2, .int .i64 x2, .int .u64 s2]] w (Ans w wd ((0 : Int) = 3 ∨ (2 : Int) = 3)) := by
  have HB := Aside0.mk ((below_alloc (Below.refl w.heap.size w) (.cells #[.bool n1, .int .i64 0, .int .i64 x1, .int .u64 s1] 46)).alloc (by rw [World.size_alloc]; omega) (.cells #[.bool n2, .int .i64 2, .int .i64 x2, .int .u64 s2] 46))
  have C := Aside0.mk C
  have FC := Aside0.mk FC
  have UU := Aside0.mk (And.intro u1 (And.intro u2 (And.intro i1 i2)))
  clear u1 u2 i1 i2
  all_goals
    go_enter Tryz.func96, Tryz.ntmps96
    go_wp2_with (first
      | (go_at_call 127; refine (infinite_calls C.out _ _ _ _ _ _ _ _ _).mono ?_
         rintro e w1 ⟨n, rfl, gn, hb⟩
         have GN := Aside0.mk gn
         clear gn
         have H1 := Aside0.mk (below_then HB.out HB.out.size hb)
         clear hb)
      | fail)
    all_goals
      refine bodyPost_ret (v := .int .u64 n) (by simp [results, Tryz.results96, go_sem]) rfl ?_
      exact ⟨n, rfl, GN.out, fun h => absurd h (by decide), H1.out⟩
set_option maxRecDepth 100000 in
set_option maxHeartbeats 4000000 in
theorem sum_parts_03 {wd : Int} (C : Fl wd) (FC : ∀ n1 n2 k1 k2 x1 x2 s1 s2 W, u64 s1 → u64 s2 → i64r x1 → i64r x2 → Calls Tryz.prog 128 #[.int .i64 wd, .agg #[.bool n1, .int .i64 k1, .int .i64 x1, .int .u64 s1], .agg #[.bool n2, .int .i64 k2, .int .i64 x2, .int .u64 s2]] W (GoodP W wd))
    (n1 n2 : Bool) (x1 x2 s1 s2 : Int) (w : World) (u1 : u64 s1) (u2 : u64 s2) (i1 : i64r x1) (i2 : i64r x2) : Calls Tryz.prog 96 #[.int .i64 wd, .agg #[.bool n1, .int .i64 0, .int .i64 x1, .int .u64 s1], .agg #[.bool n2, .int .i64 3, .int .i64 x2, .int .u64 s2]] w (Ans w wd ((0 : Int) = 3 ∨ (3 : Int) = 3)) := by
  have HB := Aside0.mk ((below_alloc (Below.refl w.heap.size w) (.cells #[.bool n1, .int .i64 0, .int .i64 x1, .int .u64 s1] 46)).alloc (by rw [World.size_alloc]; omega) (.cells #[.bool n2, .int .i64 3, .int .i64 x2, .int .u64 s2] 46))
  have C := Aside0.mk C
  have FC := Aside0.mk FC
  have UU := Aside0.mk (And.intro u1 (And.intro u2 (And.intro i1 i2)))
  clear u1 u2 i1 i2
  all_goals
    go_enter Tryz.func96, Tryz.ntmps96
    go_wp2_with (first
      | (go_at_call 7; refine (C.out.N _).mono ?_
         rintro e w1 ⟨rfl, hb⟩
         obtain ⟨n, hn⟩ : ∃ n, n = cN wd := ⟨_, rfl⟩
         have GN := Aside0.mk (show Good wd n by rw [hn]; exact C.out.cn)
         have NN := Aside0.mk hn
         rw [← hn]
         clear hn
         have H1 := Aside0.mk (below_then HB.out HB.out.size hb)
         clear hb)
      | fail)
    all_goals
      refine bodyPost_ret (v := .int .u64 n) (by simp [results, Tryz.results96, go_sem]) rfl ?_
      exact ⟨n, rfl, GN.out, fun _ => NN.out, H1.out⟩
set_option maxRecDepth 100000 in
set_option maxHeartbeats 4000000 in
theorem sum_parts_10 {wd : Int} (C : Fl wd) (FC : ∀ n1 n2 k1 k2 x1 x2 s1 s2 W, u64 s1 → u64 s2 → i64r x1 → i64r x2 → Calls Tryz.prog 128 #[.int .i64 wd, .agg #[.bool n1, .int .i64 k1, .int .i64 x1, .int .u64 s1], .agg #[.bool n2, .int .i64 k2, .int .i64 x2, .int .u64 s2]] W (GoodP W wd))
    (n1 n2 : Bool) (x1 x2 s1 s2 : Int) (w : World) (u1 : u64 s1) (u2 : u64 s2) (i1 : i64r x1) (i2 : i64r x2) : Calls Tryz.prog 96 #[.int .i64 wd, .agg #[.bool n1, .int .i64 1, .int .i64 x1, .int .u64 s1], .agg #[.bool n2, .int .i64 0, .int .i64 x2, .int .u64 s2]] w (Ans w wd ((1 : Int) = 3 ∨ (0 : Int) = 3)) := by
  have HB := Aside0.mk ((below_alloc (Below.refl w.heap.size w) (.cells #[.bool n1, .int .i64 1, .int .i64 x1, .int .u64 s1] 46)).alloc (by rw [World.size_alloc]; omega) (.cells #[.bool n2, .int .i64 0, .int .i64 x2, .int .u64 s2] 46))
  have C := Aside0.mk C
  have FC := Aside0.mk FC
  have UU := Aside0.mk (And.intro u1 (And.intro u2 (And.intro i1 i2)))
  clear u1 u2 i1 i2
  have K1 := Aside0.mk (show Kd4 1 from .inr (.inl rfl))
  all_goals
    go_enter Tryz.func96, Tryz.ntmps96
    go_wp2_with (first
      | (go_at_call 104; refine (C.out.R n1 _ x1 s1 _ K1.out UU.out.1 UU.out.2.2.1).mono ?_
         rintro e w1 ⟨n, rfl, gn, hb⟩
         have GN := Aside0.mk gn
         clear gn
         have H1 := Aside0.mk (below_then HB.out HB.out.size hb)
         clear hb)
      | fail)
    all_goals
      refine bodyPost_ret (v := .int .u64 n) (by simp [results, Tryz.results96, go_sem]) rfl ?_
      exact ⟨n, rfl, GN.out, fun h => absurd h (by decide), H1.out⟩
set_option maxRecDepth 100000 in
set_option maxHeartbeats 4000000 in
theorem sum_parts_11 {wd : Int} (C : Fl wd) (FC : ∀ n1 n2 k1 k2 x1 x2 s1 s2 W, u64 s1 → u64 s2 → i64r x1 → i64r x2 → Calls Tryz.prog 128 #[.int .i64 wd, .agg #[.bool n1, .int .i64 k1, .int .i64 x1, .int .u64 s1], .agg #[.bool n2, .int .i64 k2, .int .i64 x2, .int .u64 s2]] W (GoodP W wd))
    (n1 n2 : Bool) (x1 x2 s1 s2 : Int) (w : World) (u1 : u64 s1) (u2 : u64 s2) (i1 : i64r x1) (i2 : i64r x2) : Calls Tryz.prog 96 #[.int .i64 wd, .agg #[.bool n1, .int .i64 1, .int .i64 x1, .int .u64 s1], .agg #[.bool n2, .int .i64 1, .int .i64 x2, .int .u64 s2]] w (Ans w wd ((1 : Int) = 3 ∨ (1 : Int) = 3)) := by
  have HB := Aside0.mk ((below_alloc (Below.refl w.heap.size w) (.cells #[.bool n1, .int .i64 1, .int .i64 x1, .int .u64 s1] 46)).alloc (by rw [World.size_alloc]; omega) (.cells #[.bool n2, .int .i64 1, .int .i64 x2, .int .u64 s2] 46))
  have C := Aside0.mk C
  have FC := Aside0.mk FC
  have UU := Aside0.mk (And.intro u1 (And.intro u2 (And.intro i1 i2)))
  clear u1 u2 i1 i2
  all_goals
    go_enter Tryz.func96, Tryz.ntmps96
    go_wp2_with (first
      | (go_at_call 128; refine (FC.out _ _ _ _ _ _ _ _ _ UU.out.1 UU.out.2.1 UU.out.2.2.1 UU.out.2.2.2).mono ?_
         rintro e w1 ⟨n, rfl, gn, hb⟩
         have GN := Aside0.mk gn
         clear gn
         have H1 := Aside0.mk (below_then HB.out HB.out.size hb)
         clear hb)
      | fail)
    all_goals
      refine bodyPost_ret (v := .int .u64 n) (by simp [results, Tryz.results96, go_sem]) rfl ?_
      exact ⟨n, rfl, GN.out, fun h => absurd h (by decide), H1.out⟩
set_option maxRecDepth 100000 in
set_option maxHeartbeats 4000000 in
theorem sum_parts_12 {wd : Int} (C : Fl wd) (FC : ∀ n1 n2 k1 k2 x1 x2 s1 s2 W, u64 s1 → u64 s2 → i64r x1 → i64r x2 → Calls Tryz.prog 128 #[.int .i64 wd, .agg #[.bool n1, .int .i64 k1, .int .i64 x1, .int .u64 s1], .agg #[.bool n2, .int .i64 k2, .int .i64 x2, .int .u64 s2]] W (GoodP W wd))
    (n1 n2 : Bool) (x1 x2 s1 s2 : Int) (w : World) (u1 : u64 s1) (u2 : u64 s2) (i1 : i64r x1) (i2 : i64r x2) : Calls Tryz.prog 96 #[.int .i64 wd, .agg #[.bool n1, .int .i64 1, .int .i64 x1, .int .u64 s1], .agg #[.bool n2, .int .i64 2, .int .i64 x2, .int .u64 s2]] w (Ans w wd ((1 : Int) = 3 ∨ (2 : Int) = 3)) := by
  have HB := Aside0.mk ((below_alloc (Below.refl w.heap.size w) (.cells #[.bool n1, .int .i64 1, .int .i64 x1, .int .u64 s1] 46)).alloc (by rw [World.size_alloc]; omega) (.cells #[.bool n2, .int .i64 2, .int .i64 x2, .int .u64 s2] 46))
  have C := Aside0.mk C
  have FC := Aside0.mk FC
  have UU := Aside0.mk (And.intro u1 (And.intro u2 (And.intro i1 i2)))
  clear u1 u2 i1 i2
  all_goals
    go_enter Tryz.func96, Tryz.ntmps96
    go_wp2_with (first
      | (go_at_call 127; refine (infinite_calls C.out _ _ _ _ _ _ _ _ _).mono ?_
         rintro e w1 ⟨n, rfl, gn, hb⟩
         have GN := Aside0.mk gn
         clear gn
         have H1 := Aside0.mk (below_then HB.out HB.out.size hb)
         clear hb)
      | fail)
    all_goals
      refine bodyPost_ret (v := .int .u64 n) (by simp [results, Tryz.results96, go_sem]) rfl ?_
      exact ⟨n, rfl, GN.out, fun h => absurd h (by decide), H1.out⟩
set_option maxRecDepth 100000 in
set_option maxHeartbeats 4000000 in
theorem sum_parts_13 {wd : Int} (C : Fl wd) (FC : ∀ n1 n2 k1 k2 x1 x2 s1 s2 W, u64 s1 → u64 s2 → i64r x1 → i64r x2 → Calls Tryz.prog 128 #[.int .i64 wd, .agg #[.bool n1, .int .i64 k1, .int .i64 x1, .int .u64 s1], .agg #[.bool n2, .int .i64 k2, .int .i64 x2, .int .u64 s2]] W (GoodP W wd))
    (n1 n2 : Bool) (x1 x2 s1 s2 : Int) (w : World) (u1 : u64 s1) (u2 : u64 s2) (i1 : i64r x1) (i2 : i64r x2) : Calls Tryz.prog 96 #[.int .i64 wd, .agg #[.bool n1, .int .i64 1, .int .i64 x1, .int .u64 s1], .agg #[.bool n2, .int .i64 3, .int .i64 x2, .int .u64 s2]] w (Ans w wd ((1 : Int) = 3 ∨ (3 : Int) = 3)) := by
  have HB := Aside0.mk ((below_alloc (Below.refl w.heap.size w) (.cells #[.bool n1, .int .i64 1, .int .i64 x1, .int .u64 s1] 46)).alloc (by rw [World.size_alloc]; omega) (.cells #[.bool n2, .int .i64 3, .int .i64 x2, .int .u64 s2] 46))
  have C := Aside0.mk C
  have FC := Aside0.mk FC
  have UU := Aside0.mk (And.intro u1 (And.intro u2 (And.intro i1 i2)))
  clear u1 u2 i1 i2
  all_goals
    go_enter Tryz.func96, Tryz.ntmps96
    go_wp2_with (first
      | (go_at_call 7; refine (C.out.N _).mono ?_
         rintro e w1 ⟨rfl, hb⟩
         obtain ⟨n, hn⟩ : ∃ n, n = cN wd := ⟨_, rfl⟩
         have GN := Aside0.mk (show Good wd n by rw [hn]; exact C.out.cn)
         have NN := Aside0.mk hn
         rw [← hn]
         clear hn
         have H1 := Aside0.mk (below_then HB.out HB.out.size hb)
         clear hb)
      | fail)
    all_goals
      refine bodyPost_ret (v := .int .u64 n) (by simp [results, Tryz.results96, go_sem]) rfl ?_
      exact ⟨n, rfl, GN.out, fun _ => NN.out, H1.out⟩
set_option maxRecDepth 100000 in
set_option maxHeartbeats 4000000 in
theorem sum_parts_20 {wd : Int} (C : Fl wd) (FC : ∀ n1 n2 k1 k2 x1 x2 s1 s2 W, u64 s1 → u64 s2 → i64r x1 → i64r x2 → Calls Tryz.prog 128 #[.int .i64 wd, .agg #[.bool n1, .int .i64 k1, .int .i64 x1, .int .u64 s1], .agg #[.bool n2, .int .i64 k2, .int .i64 x2, .int .u64 s2]] W (GoodP W wd))
    (n1 n2 : Bool) (x1 x2 s1 s2 : Int) (w : World) (u1 : u64 s1) (u2 : u64 s2) (i1 : i64r x1) (i2 : i64r x2) : Calls Tryz.prog 96 #[.int .i64 wd, .agg #[.bool n1, .int .i64 2, .int .i64 x1, .int .u64 s1], .agg #[.bool n2, .int .i64 0, .int .i64 x2, .int .u64 s2]] w (Ans w wd ((2 : Int) = 3 ∨ (0 : Int) = 3)) := by
  have HB := Aside0.mk ((below_alloc (Below.refl w.heap.size w) (.cells #[.bool n1, .int .i64 2, .int .i64 x1, .int .u64 s1] 46)).alloc (by rw [World.size_alloc]; omega) (.cells #[.bool n2, .int .i64 0, .int .i64 x2, .int .u64 s2] 46))
  have C := Aside0.mk C
  have FC := Aside0.mk FC
  have UU := Aside0.mk (And.intro u1 (And.intro u2 (And.intro i1 i2)))
  clear u1 u2 i1 i2
  all_goals
    go_enter Tryz.func96, Tryz.ntmps96
    go_wp2_with (first
      | (go_at_call 127; refine (infinite_calls C.out _ _ _ _ _ _ _ _ _).mono ?_
         rintro e w1 ⟨n, rfl, gn, hb⟩
         have GN := Aside0.mk gn
         clear gn
         have H1 := Aside0.mk (below_then HB.out HB.out.size hb)
         clear hb)
      | fail)
    all_goals
      refine bodyPost_ret (v := .int .u64 n) (by simp [results, Tryz.results96, go_sem]) rfl ?_
      exact ⟨n, rfl, GN.out, fun h => absurd h (by decide), H1.out⟩
set_option maxRecDepth 100000 in
set_option maxHeartbeats 4000000 in
theorem sum_parts_21 {wd : Int} (C : Fl wd) (FC : ∀ n1 n2 k1 k2 x1 x2 s1 s2 W, u64 s1 → u64 s2 → i64r x1 → i64r x2 → Calls Tryz.prog 128 #[.int .i64 wd, .agg #[.bool n1, .int .i64 k1, .int .i64 x1, .int .u64 s1], .agg #[.bool n2, .int .i64 k2, .int .i64 x2, .int .u64 s2]] W (GoodP W wd))
    (n1 n2 : Bool) (x1 x2 s1 s2 : Int) (w : World) (u1 : u64 s1) (u2 : u64 s2) (i1 : i64r x1) (i2 : i64r x2) : Calls Tryz.prog 96 #[.int .i64 wd, .agg #[.bool n1, .int .i64 2, .int .i64 x1, .int .u64 s1], .agg #[.bool n2, .int .i64 1, .int .i64 x2, .int .u64 s2]] w (Ans w wd ((2 : Int) = 3 ∨ (1 : Int) = 3)) := by
  have HB := Aside0.mk ((below_alloc (Below.refl w.heap.size w) (.cells #[.bool n1, .int .i64 2, .int .i64 x1, .int .u64 s1] 46)).alloc (by rw [World.size_alloc]; omega) (.cells #[.bool n2, .int .i64 1, .int .i64 x2, .int .u64 s2] 46))
  have C := Aside0.mk C
  have FC := Aside0.mk FC
  have UU := Aside0.mk (And.intro u1 (And.intro u2 (And.intro i1 i2)))
  clear u1 u2 i1 i2
  all_goals
    go_enter Tryz.func96, Tryz.ntmps96
    go_wp2_with (first
      | (go_at_call 127; refine (infinite_calls C.out _ _ _ _ _ _ _ _ _).mono ?_
         rintro e w1 ⟨n, rfl, gn, hb⟩
         have GN := Aside0.mk gn
         clear gn
         have H1 := Aside0.mk (below_then HB.out HB.out.size hb)
         clear hb)
      | fail)
    all_goals
      refine bodyPost_ret (v := .int .u64 n) (by simp [results, Tryz.results96, go_sem]) rfl ?_
      exact ⟨n, rfl, GN.out, fun h => absurd h (by decide), H1.out⟩
set_option maxRecDepth 100000 in
set_option maxHeartbeats 4000000 in
theorem sum_parts_22 {wd : Int} (C : Fl wd) (FC : ∀ n1 n2 k1 k2 x1 x2 s1 s2 W, u64 s1 → u64 s2 → i64r x1 → i64r x2 → Calls Tryz.prog 128 #[.int .i64 wd, .agg #[.bool n1, .int .i64 k1, .int .i64 x1, .int .u64 s1], .agg #[.bool n2, .int .i64 k2, .int .i64 x2, .int .u64 s2]] W (GoodP W wd))
    (n1 n2 : Bool) (x1 x2 s1 s2 : Int) (w : World) (u1 : u64 s1) (u2 : u64 s2) (i1 : i64r x1) (i2 : i64r x2) : Calls Tryz.prog 96 #[.int .i64 wd, .agg #[.bool n1, .int .i64 2, .int .i64 x1, .int .u64 s1], .agg #[.bool n2, .int .i64 2, .int .i64 x2, .int .u64 s2]] w (Ans w wd ((2 : Int) = 3 ∨ (2 : Int) = 3)) := by
  have HB := Aside0.mk ((below_alloc (Below.refl w.heap.size w) (.cells #[.bool n1, .int .i64 2, .int .i64 x1, .int .u64 s1] 46)).alloc (by rw [World.size_alloc]; omega) (.cells #[.bool n2, .int .i64 2, .int .i64 x2, .int .u64 s2] 46))
  have C := Aside0.mk C
  have FC := Aside0.mk FC
  have UU := Aside0.mk (And.intro u1 (And.intro u2 (And.intro i1 i2)))
  clear u1 u2 i1 i2
  all_goals
    go_enter Tryz.func96, Tryz.ntmps96
    go_wp2_with (first
      | (go_at_call 127; refine (infinite_calls C.out _ _ _ _ _ _ _ _ _).mono ?_
         rintro e w1 ⟨n, rfl, gn, hb⟩
         have GN := Aside0.mk gn
         clear gn
         have H1 := Aside0.mk (below_then HB.out HB.out.size hb)
         clear hb)
      | fail)
    all_goals
      refine bodyPost_ret (v := .int .u64 n) (by simp [results, Tryz.results96, go_sem]) rfl ?_
      exact ⟨n, rfl, GN.out, fun h => absurd h (by decide), H1.out⟩
set_option maxRecDepth 100000 in
set_option maxHeartbeats 4000000 in
theorem sum_parts_23 {wd : Int} (C : Fl wd) (FC : ∀ n1 n2 k1 k2 x1 x2 s1 s2 W, u64 s1 → u64 s2 → i64r x1 → i64r x2 → Calls Tryz.prog 128 #[.int .i64 wd, .agg #[.bool n1, .int .i64 k1, .int .i64 x1, .int .u64 s1], .agg #[.bool n2, .int .i64 k2, .int .i64 x2, .int .u64 s2]] W (GoodP W wd))
    (n1 n2 : Bool) (x1 x2 s1 s2 : Int) (w : World) (u1 : u64 s1) (u2 : u64 s2) (i1 : i64r x1) (i2 : i64r x2) : Calls Tryz.prog 96 #[.int .i64 wd, .agg #[.bool n1, .int .i64 2, .int .i64 x1, .int .u64 s1], .agg #[.bool n2, .int .i64 3, .int .i64 x2, .int .u64 s2]] w (Ans w wd ((2 : Int) = 3 ∨ (3 : Int) = 3)) := by
  have HB := Aside0.mk ((below_alloc (Below.refl w.heap.size w) (.cells #[.bool n1, .int .i64 2, .int .i64 x1, .int .u64 s1] 46)).alloc (by rw [World.size_alloc]; omega) (.cells #[.bool n2, .int .i64 3, .int .i64 x2, .int .u64 s2] 46))
  have C := Aside0.mk C
  have FC := Aside0.mk FC
  have UU := Aside0.mk (And.intro u1 (And.intro u2 (And.intro i1 i2)))
  clear u1 u2 i1 i2
  all_goals
    go_enter Tryz.func96, Tryz.ntmps96
    go_wp2_with (first
      | (go_at_call 7; refine (C.out.N _).mono ?_
         rintro e w1 ⟨rfl, hb⟩
         obtain ⟨n, hn⟩ : ∃ n, n = cN wd := ⟨_, rfl⟩
         have GN := Aside0.mk (show Good wd n by rw [hn]; exact C.out.cn)
         have NN := Aside0.mk hn
         rw [← hn]
         clear hn
         have H1 := Aside0.mk (below_then HB.out HB.out.size hb)
         clear hb)
      | fail)
    all_goals
      refine bodyPost_ret (v := .int .u64 n) (by simp [results, Tryz.results96, go_sem]) rfl ?_
      exact ⟨n, rfl, GN.out, fun _ => NN.out, H1.out⟩
set_option maxRecDepth 100000 in
set_option maxHeartbeats 4000000 in
theorem sum_parts_30 {wd : Int} (C : Fl wd) (FC : ∀ n1 n2 k1 k2 x1 x2 s1 s2 W, u64 s1 → u64 s2 → i64r x1 → i64r x2 → Calls Tryz.prog 128 #[.int .i64 wd, .agg #[.bool n1, .int .i64 k1, .int .i64 x1, .int .u64 s1], .agg #[.bool n2, .int .i64 k2, .int .i64 x2, .int .u64 s2]] W (GoodP W wd))
    (n1 n2 : Bool) (x1 x2 s1 s2 : Int) (w : World) (u1 : u64 s1) (u2 : u64 s2) (i1 : i64r x1) (i2 : i64r x2) : Calls Tryz.prog 96 #[.int .i64 wd, .agg #[.bool n1, .int .i64 3, .int .i64 x1, .int .u64 s1], .agg #[.bool n2, .int .i64 0, .int .i64 x2, .int .u64 s2]] w (Ans w wd ((3 : Int) = 3 ∨ (0 : Int) = 3)) := by
  have HB := Aside0.mk ((below_alloc (Below.refl w.heap.size w) (.cells #[.bool n1, .int .i64 3, .int .i64 x1, .int .u64 s1] 46)).alloc (by rw [World.size_alloc]; omega) (.cells #[.bool n2, .int .i64 0, .int .i64 x2, .int .u64 s2] 46))
  have C := Aside0.mk C
  have FC := Aside0.mk FC
  have UU := Aside0.mk (And.intro u1 (And.intro u2 (And.intro i1 i2)))
  clear u1 u2 i1 i2
  all_goals
    go_enter Tryz.func96, Tryz.ntmps96
    go_wp2_with (first
      | (go_at_call 7; refine (C.out.N _).mono ?_
         rintro e w1 ⟨rfl, hb⟩
         obtain ⟨n, hn⟩ : ∃ n, n = cN wd := ⟨_, rfl⟩
         have GN := Aside0.mk (show Good wd n by rw [hn]; exact C.out.cn)
         have NN := Aside0.mk hn
         rw [← hn]
         clear hn
         have H1 := Aside0.mk (below_then HB.out HB.out.size hb)
         clear hb)
      | fail)
    all_goals
      refine bodyPost_ret (v := .int .u64 n) (by simp [results, Tryz.results96, go_sem]) rfl ?_
      exact ⟨n, rfl, GN.out, fun _ => NN.out, H1.out⟩
set_option maxRecDepth 100000 in
set_option maxHeartbeats 4000000 in
theorem sum_parts_31 {wd : Int} (C : Fl wd) (FC : ∀ n1 n2 k1 k2 x1 x2 s1 s2 W, u64 s1 → u64 s2 → i64r x1 → i64r x2 → Calls Tryz.prog 128 #[.int .i64 wd, .agg #[.bool n1, .int .i64 k1, .int .i64 x1, .int .u64 s1], .agg #[.bool n2, .int .i64 k2, .int .i64 x2, .int .u64 s2]] W (GoodP W wd))
    (n1 n2 : Bool) (x1 x2 s1 s2 : Int) (w : World) (u1 : u64 s1) (u2 : u64 s2) (i1 : i64r x1) (i2 : i64r x2) : Calls Tryz.prog 96 #[.int .i64 wd, .agg #[.bool n1, .int .i64 3, .int .i64 x1, .int .u64 s1], .agg #[.bool n2, .int .i64 1, .int .i64 x2, .int .u64 s2]] w (Ans w wd ((3 : Int) = 3 ∨ (1 : Int) = 3)) := by
  have HB := Aside0.mk ((below_alloc (Below.refl w.heap.size w) (.cells #[.bool n1, .int .i64 3, .int .i64 x1, .int .u64 s1] 46)).alloc (by rw [World.size_alloc]; omega) (.cells #[.bool n2, .int .i64 1, .int .i64 x2, .int .u64 s2] 46))
  have C := Aside0.mk C
  have FC := Aside0.mk FC
  have UU := Aside0.mk (And.intro u1 (And.intro u2 (And.intro i1 i2)))
  clear u1 u2 i1 i2
  all_goals
    go_enter Tryz.func96, Tryz.ntmps96
    go_wp2_with (first
      | (go_at_call 7; refine (C.out.N _).mono ?_
         rintro e w1 ⟨rfl, hb⟩
         obtain ⟨n, hn⟩ : ∃ n, n = cN wd := ⟨_, rfl⟩
         have GN := Aside0.mk (show Good wd n by rw [hn]; exact C.out.cn)
         have NN := Aside0.mk hn
         rw [← hn]
         clear hn
         have H1 := Aside0.mk (below_then HB.out HB.out.size hb)
         clear hb)
      | fail)
    all_goals
      refine bodyPost_ret (v := .int .u64 n) (by simp [results, Tryz.results96, go_sem]) rfl ?_
      exact ⟨n, rfl, GN.out, fun _ => NN.out, H1.out⟩
set_option maxRecDepth 100000 in
set_option maxHeartbeats 4000000 in
theorem sum_parts_32 {wd : Int} (C : Fl wd) (FC : ∀ n1 n2 k1 k2 x1 x2 s1 s2 W, u64 s1 → u64 s2 → i64r x1 → i64r x2 → Calls Tryz.prog 128 #[.int .i64 wd, .agg #[.bool n1, .int .i64 k1, .int .i64 x1, .int .u64 s1], .agg #[.bool n2, .int .i64 k2, .int .i64 x2, .int .u64 s2]] W (GoodP W wd))
    (n1 n2 : Bool) (x1 x2 s1 s2 : Int) (w : World) (u1 : u64 s1) (u2 : u64 s2) (i1 : i64r x1) (i2 : i64r x2) : Calls Tryz.prog 96 #[.int .i64 wd, .agg #[.bool n1, .int .i64 3, .int .i64 x1, .int .u64 s1], .agg #[.bool n2, .int .i64 2, .int .i64 x2, .int .u64 s2]] w (Ans w wd ((3 : Int) = 3 ∨ (2 : Int) = 3)) := by
  have HB := Aside0.mk ((below_alloc (Below.refl w.heap.size w) (.cells #[.bool n1, .int .i64 3, .int .i64 x1, .int .u64 s1] 46)).alloc (by rw [World.size_alloc]; omega) (.cells #[.bool n2, .int .i64 2, .int .i64 x2, .int .u64 s2] 46))
  have C := Aside0.mk C
  have FC := Aside0.mk FC
  have UU := Aside0.mk (And.intro u1 (And.intro u2 (And.intro i1 i2)))
  clear u1 u2 i1 i2
  all_goals
    go_enter Tryz.func96, Tryz.ntmps96
    go_wp2_with (first
      | (go_at_call 7; refine (C.out.N _).mono ?_
         rintro e w1 ⟨rfl, hb⟩
         obtain ⟨n, hn⟩ : ∃ n, n = cN wd := ⟨_, rfl⟩
         have GN := Aside0.mk (show Good wd n by rw [hn]; exact C.out.cn)
         have NN := Aside0.mk hn
         rw [← hn]
         clear hn
         have H1 := Aside0.mk (below_then HB.out HB.out.size hb)
         clear hb)
      | fail)
    all_goals
      refine bodyPost_ret (v := .int .u64 n) (by simp [results, Tryz.results96, go_sem]) rfl ?_
      exact ⟨n, rfl, GN.out, fun _ => NN.out, H1.out⟩
set_option maxRecDepth 100000 in
set_option maxHeartbeats 4000000 in
theorem sum_parts_33 {wd : Int} (C : Fl wd) (FC : ∀ n1 n2 k1 k2 x1 x2 s1 s2 W, u64 s1 → u64 s2 → i64r x1 → i64r x2 → Calls Tryz.prog 128 #[.int .i64 wd, .agg #[.bool n1, .int .i64 k1, .int .i64 x1, .int .u64 s1], .agg #[.bool n2, .int .i64 k2, .int .i64 x2, .int .u64 s2]] W (GoodP W wd))
    (n1 n2 : Bool) (x1 x2 s1 s2 : Int) (w : World) (u1 : u64 s1) (u2 : u64 s2) (i1 : i64r x1) (i2 : i64r x2) : Calls Tryz.prog 96 #[.int .i64 wd, .agg #[.bool n1, .int .i64 3, .int .i64 x1, .int .u64 s1], .agg #[.bool n2, .int .i64 3, .int .i64 x2, .int .u64 s2]] w (Ans w wd ((3 : Int) = 3 ∨ (3 : Int) = 3)) := by
  have HB := Aside0.mk ((below_alloc (Below.refl w.heap.size w) (.cells #[.bool n1, .int .i64 3, .int .i64 x1, .int .u64 s1] 46)).alloc (by rw [World.size_alloc]; omega) (.cells #[.bool n2, .int .i64 3, .int .i64 x2, .int .u64 s2] 46))
  have C := Aside0.mk C
  have FC := Aside0.mk FC
  have UU := Aside0.mk (And.intro u1 (And.intro u2 (And.intro i1 i2)))
  clear u1 u2 i1 i2
  all_goals
    go_enter Tryz.func96, Tryz.ntmps96
    go_wp2_with (first
      | (go_at_call 7; refine (C.out.N _).mono ?_
         rintro e w1 ⟨rfl, hb⟩
         obtain ⟨n, hn⟩ : ∃ n, n = cN wd := ⟨_, rfl⟩
         have GN := Aside0.mk (show Good wd n by rw [hn]; exact C.out.cn)
         have NN := Aside0.mk hn
         rw [← hn]
         clear hn
         have H1 := Aside0.mk (below_then HB.out HB.out.size hb)
         clear hb)
      | fail)
    all_goals
      refine bodyPost_ret (v := .int .u64 n) (by simp [results, Tryz.results96, go_sem]) rfl ?_
      exact ⟨n, rfl, GN.out, fun _ => NN.out, H1.out⟩
theorem sum_parts {wd : Int} (C : Fl wd) (FC : ∀ n1 n2 k1 k2 x1 x2 s1 s2 W, u64 s1 → u64 s2 → i64r x1 → i64r x2 → Calls Tryz.prog 128 #[.int .i64 wd, .agg #[.bool n1, .int .i64 k1, .int .i64 x1, .int .u64 s1], .agg #[.bool n2, .int .i64 k2, .int .i64 x2, .int .u64 s2]] W (GoodP W wd))
    (n1 n2 : Bool) (k1 k2 x1 x2 s1 s2 : Int) (w : World) (h1 : Kd4 k1) (h2 : Kd4 k2) (u1 : u64 s1) (u2 : u64 s2) (i1 : i64r x1) (i2 : i64r x2) : Calls Tryz.prog 96 #[.int .i64 wd, .agg #[.bool n1, .int .i64 k1, .int .i64 x1, .int .u64 s1], .agg #[.bool n2, .int .i64 k2, .int .i64 x2, .int .u64 s2]] w (Ans w wd (k1 = 3 ∨ k2 = 3)) := by
  rcases h1 with rfl | rfl | rfl | rfl <;> rcases h2 with rfl | rfl | rfl | rfl
  · exact sum_parts_00 C FC n1 n2 x1 x2 s1 s2 w u1 u2 i1 i2
  · exact sum_parts_01 C FC n1 n2 x1 x2 s1 s2 w u1 u2 i1 i2
  · exact sum_parts_02 C FC n1 n2 x1 x2 s1 s2 w u1 u2 i1 i2
  · exact sum_parts_03 C FC n1 n2 x1 x2 s1 s2 w u1 u2 i1 i2
  · exact sum_parts_10 C FC n1 n2 x1 x2 s1 s2 w u1 u2 i1 i2
  · exact sum_parts_11 C FC n1 n2 x1 x2 s1 s2 w u1 u2 i1 i2
  · exact sum_parts_12 C FC n1 n2 x1 x2 s1 s2 w u1 u2 i1 i2
  · exact sum_parts_13 C FC n1 n2 x1 x2 s1 s2 w u1 u2 i1 i2
  · exact sum_parts_20 C FC n1 n2 x1 x2 s1 s2 w u1 u2 i1 i2
  · exact sum_parts_21 C FC n1 n2 x1 x2 s1 s2 w u1 u2 i1 i2
  · exact sum_parts_22 C FC n1 n2 x1 x2 s1 s2 w u1 u2 i1 i2
  · exact sum_parts_23 C FC n1 n2 x1 x2 s1 s2 w u1 u2 i1 i2
  · exact sum_parts_30 C FC n1 n2 x1 x2 s1 s2 w u1 u2 i1 i2
  · exact sum_parts_31 C FC n1 n2 x1 x2 s1 s2 w u1 u2 i1 i2
  · exact sum_parts_32 C FC n1 n2 x1 x2 s1 s2 w u1 u2 i1 i2
  · exact sum_parts_33 C FC n1 n2 x1 x2 s1 s2 w u1 u2 i1 i2
end Go.Proofs.YticonaahlplbjaaGreatDoor.Tn
