-- Written by a program of ours (stubprint.py) that calls the kit's printer.
import Derived.Test.YtjhdnlgbboboiaaQ16x0
import Derived.Test.YtjhdnlgbboboiaaQ16x1
import Derived.Test.YtjhdnlgbboboiaaQ16x2
import Derived.Test.YtjhdnlgbboboiaaQ16x4
import Derived.Test.YtjhdnlgbboboiaaQ16x5
import Derived.Test.YtjhdnlgbboboiaaQ16x6
import Derived.Test.YtjhdnlgbboboiaaQ16x7
namespace Go.Proofs.Ytjhdnlgbboboiaa.Q16
open Go.RowKit Go.Proofs.YtjhdnlgbboboiaaW.PrintWords Go.Proofs.YtjhdnlgbboboiaaW.PrintLast Go.Proofs.YtjhdnlgbboboiaaW.PrintMore
attribute [local go_sem] max2_int min2_int max_two min_two max_three min_three max_four min_four   -- for this text's walks alone
set_option linter.unusedVariables false
set_option linter.unusedSimpArgs false

/-! ### trunnionlaw16_UtfReads: function 3 -/
def trunnionlaw16_UtfReads.j0 : Nat → List Int → Bool → Option (Bool)
  | 0, _, _ => none
  | k + 1, x0, x60 => if x60 = true then (some false) else ((utf_Count.f x0).bind fun bt139 => ((trunnionref16_Count.f k x0).bind fun t141 => (if bt139.1 = (mx t141 0) then (if (bt139.2 == (decide (t141 ≥ 0))) = true then ((utf_Valid.f x0).bind fun t142 => (some (t142 == bt139.2))) else (some false)) else (some false))))
def trunnionlaw16_UtfReads.f (k : Nat) (l0 : List Int) (a1 : Int) : Option (Bool) := (trunnionlaw16_awake.f).bind fun t133 => (if t133 = true then (if (l0.length : Int) > 1000 then (some true) else ((utf_Next.f l0 a1).bind fun bt134 => ((trunnionref16_Next.f k l0 a1).bind fun bt137 => (if (bt134.2.2 != (decide (bt137.1 ≥ 0))) = true then (trunnionlaw16_UtfReads.j0 k l0 true) else (if bt134.2.2 = true then (if (wrap64 (bt134.1)) = bt137.1 then (if bt134.2.1 = bt137.2 then (trunnionlaw16_UtfReads.j0 k l0 false) else (trunnionlaw16_UtfReads.j0 k l0 true)) else (trunnionlaw16_UtfReads.j0 k l0 true)) else (if bt134.1 = 0 then (trunnionlaw16_UtfReads.j0 k l0 (bt134.2.1 != 0)) else (trunnionlaw16_UtfReads.j0 k l0 true))))))) else (some false))
theorem trunnionlaw16_UtfReads.mono_l : ∀ k, (∀ y0 y1, LeO (trunnionlaw16_UtfReads.j0 k y0 y1) (trunnionlaw16_UtfReads.j0 (k + 1) y0 y1))
  | 0 => fun _ _ r h => by simp [trunnionlaw16_UtfReads.j0] at h
  | k + 1 => by
    have ih0 := trunnionlaw16_UtfReads.mono_l k
    · intro y0 y1
      unfold trunnionlaw16_UtfReads.j0
      repeat' first
      | (with_reducible exact ih0 _ _)
      | (with_reducible exact trunnionref16_Count.mono _ _)
      | (with_reducible exact trunnionref16_Next.mono _ _ _)
      | (with_reducible exact LeO.refl _)
      | (with_reducible exact LeO.none _)
      | (with_reducible refine LeO.ite ?_ ?_)
      | (with_reducible refine LeO.bind ?_ (fun _ => ?_))
      | exact ih0 _ _
      | exact trunnionref16_Count.mono _ _
      | exact trunnionref16_Next.mono _ _ _
      | exact LeO.none _
      | refine LeO.ite ?_ ?_
      | refine LeO.bind ?_ (fun _ => ?_)
theorem trunnionlaw16_UtfReads.mono : ∀ a0 a1 k, LeO (trunnionlaw16_UtfReads.f k a0 a1) (trunnionlaw16_UtfReads.f (k + 1) a0 a1) := by
  intro a0 a1 k
  have ih0 := trunnionlaw16_UtfReads.mono_l k
  unfold trunnionlaw16_UtfReads.f
  repeat' first
      | (with_reducible exact ih0 _ _)
      | (with_reducible exact trunnionref16_Count.mono _ _)
      | (with_reducible exact trunnionref16_Next.mono _ _ _)
      | (with_reducible exact LeO.refl _)
      | (with_reducible exact LeO.none _)
      | (with_reducible refine LeO.ite ?_ ?_)
      | (with_reducible refine LeO.bind ?_ (fun _ => ?_))
      | exact ih0 _ _
      | exact trunnionref16_Count.mono _ _
      | exact trunnionref16_Next.mono _ _ _
      | exact LeO.none _
      | refine LeO.ite ?_ ?_
      | refine LeO.bind ?_ (fun _ => ?_)
set_option maxHeartbeats 8000000 in
set_option maxRecDepth 100000 in
theorem trunnionlaw16_UtfReads.calls (k : Nat) (A0 : Option Addr) (c0 : Nat) (l0 : List Int) (a1 : Int) (r : Bool) (w : World) (hr0 : Kd.C (Kd.int .u8) w A0 l0.length l0) (hc0 : l0.length ≤ c0) (h : trunnionlaw16_UtfReads.f k l0 a1 = some r) :
    Calls Try.prog 3 #[.slice A0 l0.length c0, .int .i64 a1] w fun e w' => e = .returned (.bool r) ∧ Below w.heap.size w w' := by
  have HR0 := Aside0.mk hr0
  have HC0 := Aside0.mk hc0
  clear hr0 hc0
  have HB := Aside0.mk (Below.refl w.heap.size w)
  have H : ((trunnionlaw16_awake.f).bind fun t133 => (if t133 = true then (if (l0.length : Int) > 1000 then (some true) else ((utf_Next.f l0 a1).bind fun bt134 => ((trunnionref16_Next.f k l0 a1).bind fun bt137 => (if (bt134.2.2 != (decide (bt137.1 ≥ 0))) = true then (trunnionlaw16_UtfReads.j0 k l0 true) else (if bt134.2.2 = true then (if (wrap64 (bt134.1)) = bt137.1 then (if bt134.2.1 = bt137.2 then (trunnionlaw16_UtfReads.j0 k l0 false) else (trunnionlaw16_UtfReads.j0 k l0 true)) else (trunnionlaw16_UtfReads.j0 k l0 true)) else (if bt134.1 = 0 then (trunnionlaw16_UtfReads.j0 k l0 (bt134.2.1 != 0)) else (trunnionlaw16_UtfReads.j0 k l0 true))))))) else (some false))) = some r := h
  clear h
  replace H := Option.bind_eq_some_iff.mp H
  obtain ⟨t133, A30, H⟩ := H
  replace H : (if t133 = true then (if (l0.length : Int) > 1000 then (some true) else ((utf_Next.f l0 a1).bind fun bt134 => ((trunnionref16_Next.f k l0 a1).bind fun bt137 => (if (bt134.2.2 != (decide (bt137.1 ≥ 0))) = true then (trunnionlaw16_UtfReads.j0 k l0 true) else (if bt134.2.2 = true then (if (wrap64 (bt134.1)) = bt137.1 then (if bt134.2.1 = bt137.2 then (trunnionlaw16_UtfReads.j0 k l0 false) else (trunnionlaw16_UtfReads.j0 k l0 true)) else (trunnionlaw16_UtfReads.j0 k l0 true)) else (if bt134.1 = 0 then (trunnionlaw16_UtfReads.j0 k l0 (bt134.2.1 != 0)) else (trunnionlaw16_UtfReads.j0 k l0 true))))))) else (some false)) = some r := H
  have A3 := Aside0.mk A30
  clear A30
  by_cases c4 : t133 = true
  · subst c4
    have H1 : (if (l0.length : Int) > 1000 then (some true) else ((utf_Next.f l0 a1).bind fun bt134 => ((trunnionref16_Next.f k l0 a1).bind fun bt137 => (if (bt134.2.2 != (decide (bt137.1 ≥ 0))) = true then (trunnionlaw16_UtfReads.j0 k l0 true) else (if bt134.2.2 = true then (if (wrap64 (bt134.1)) = bt137.1 then (if bt134.2.1 = bt137.2 then (trunnionlaw16_UtfReads.j0 k l0 false) else (trunnionlaw16_UtfReads.j0 k l0 true)) else (trunnionlaw16_UtfReads.j0 k l0 true)) else (if bt134.1 = 0 then (trunnionlaw16_UtfReads.j0 k l0 (bt134.2.1 != 0)) else (trunnionlaw16_UtfReads.j0 k l0 true))))))) = some r := by rw [if_pos rfl] at H; exact H
    clear H
    have H := H1
    clear H1
    by_cases c5 : (l0.length : Int) > 1000
    · rw [if_pos c5] at H
      have c5b0 : decide (1000 < (l0.length : Int)) = true := decide_eq_true c5
      have c5b1 : decide (1000 < l0.length) = true := decide_eq_true (by omega)
      clear c5
      obtain rfl := Option.some.inj H
      go_enter Try.func3, Try.ntmps3
      go_wp2_with (first | ((with_reducible refine gate_callee (f := 15) rfl ?_); refine goesL_ (some 13) rfl rfl Try.func15 (by kernel_rfl) rfl #[] rfl (by (try simp only [List.map_toArray, List.map_cons, List.map_nil]); first | done | rfl | (simp only [List.length_drop, List.length_take]; rfl)) ?_; (with_reducible refine (trunnionlaw16_awake.calls  true _ A3.out).mono ?_); rintro e w6 ⟨rfl, hb⟩; refine ⟨_, rfl, ?_⟩; have n0_ := Aside0.mk (below_step (by repeat (first | (with_reducible first | exact HB.out | apply below_alloc | apply pw_below_drewN | apply below_drew1) | exact HB.out)) hb); clear HB; have HB := n0_; clear n0_; (try clear hb); (try clear hb2); (try clear hk); (try clear hi)))
      go_ret
      exact ⟨by first | rfl | (simp [errW_none, errW_some] <;> rfl) | (simp [*, errW_none, errW_some] <;> rfl), by repeat (first | (with_reducible first | exact HB.out | apply below_alloc | apply pw_below_drewN | apply below_drew1) | exact HB.out)⟩
    · rw [if_neg c5] at H
      have c5b0 : decide (1000 < (l0.length : Int)) = false := decide_eq_false c5
      have c5b1 : decide (1000 < l0.length) = false := decide_eq_false (by omega)
      clear c5
      replace H := Option.bind_eq_some_iff.mp H
      obtain ⟨⟨t134, t135, t136⟩, A70, H⟩ := H
      replace H : ((trunnionref16_Next.f k l0 a1).bind fun bt137 => (if (t136 != (decide (bt137.1 ≥ 0))) = true then (trunnionlaw16_UtfReads.j0 k l0 true) else (if t136 = true then (if (wrap64 (t134)) = bt137.1 then (if t135 = bt137.2 then (trunnionlaw16_UtfReads.j0 k l0 false) else (trunnionlaw16_UtfReads.j0 k l0 true)) else (trunnionlaw16_UtfReads.j0 k l0 true)) else (if t134 = 0 then (trunnionlaw16_UtfReads.j0 k l0 (t135 != 0)) else (trunnionlaw16_UtfReads.j0 k l0 true))))) = some r := H
      have A7 := Aside0.mk A70
      clear A70
      replace H := Option.bind_eq_some_iff.mp H
      obtain ⟨⟨t137, t138⟩, A80, H⟩ := H
      replace H : (if (t136 != (decide (t137 ≥ 0))) = true then (trunnionlaw16_UtfReads.j0 k l0 true) else (if t136 = true then (if (wrap64 (t134)) = t137 then (if t135 = t138 then (trunnionlaw16_UtfReads.j0 k l0 false) else (trunnionlaw16_UtfReads.j0 k l0 true)) else (trunnionlaw16_UtfReads.j0 k l0 true)) else (if t134 = 0 then (trunnionlaw16_UtfReads.j0 k l0 (t135 != 0)) else (trunnionlaw16_UtfReads.j0 k l0 true)))) = some r := H
      have A8 := Aside0.mk A80
      clear A80
      have HC9 := Aside0.mk H
      clear H
      go_enter Try.func3, Try.ntmps3
      go_upto_region 7 with (first | ((with_reducible refine gate_callee (f := 15) rfl ?_); refine goesL_ (some 13) rfl rfl Try.func15 (by kernel_rfl) rfl #[] rfl (by (try simp only [List.map_toArray, List.map_cons, List.map_nil]); first | done | rfl | (simp only [List.length_drop, List.length_take]; rfl)) ?_; (with_reducible refine (trunnionlaw16_awake.calls  true _ A3.out).mono ?_); rintro e w10 ⟨rfl, hb⟩; refine ⟨_, rfl, ?_⟩; have n0_ := Aside0.mk (below_step (by repeat (first | (with_reducible first | exact HB.out | apply below_alloc | apply pw_below_drewN | apply below_drew1) | exact HB.out)) hb); clear HB; have HB := n0_; clear n0_; (try clear hb); (try clear hb2); (try clear hk); (try clear hi)) | ((with_reducible refine gate_callee (f := 16) rfl ?_); refine goesL_ (some 21) rfl rfl Try.func16 (by kernel_rfl) rfl #[.slice A0 l0.length c0, .int .i64 a1] rfl (by (try simp only [List.map_toArray, List.map_cons, List.map_nil]); first | done | rfl | (simp only [List.length_drop, List.length_take]; rfl)) ?_; (with_reducible refine (utf_Next.calls _ _ l0 a1 t134 t135 t136 _ ?side1 ?side2 A7.out).mono ?_); (case side1 => repeat (first | exact (Kd.C_below HR0.out HB.out) | (with_reducible refine Kd.C_alloc ?_ _) | (with_reducible refine Kd.C_drewN ?_ _) | (with_reducible refine Kd.C_drew ?_))); (case side2 => exact HC0.out); rintro e w11 ⟨rfl, hb⟩; refine ⟨_, rfl, ?_⟩; have n0_ := Aside0.mk (below_step (by repeat (first | (with_reducible first | exact HB.out | apply below_alloc | apply pw_below_drewN | apply below_drew1) | exact HB.out)) hb); clear HB; have HB := n0_; clear n0_; (try clear hb); (try clear hb2); (try clear hk); (try clear hi)) | ((with_reducible refine gate_callee (f := 17) rfl ?_); refine goesL_ (some 28) rfl rfl Try.func17 (by kernel_rfl) rfl #[.slice A0 l0.length c0, .int .i64 a1] rfl (by (try simp only [List.map_toArray, List.map_cons, List.map_nil]); first | done | rfl | (simp only [List.length_drop, List.length_take]; rfl)) ?_; (with_reducible refine (trunnionref16_Next.calls k _ _ l0 a1 t137 t138 _ ?side1 ?side2 A8.out).mono ?_); (case side1 => repeat (first | exact (Kd.C_below HR0.out HB.out) | (with_reducible refine Kd.C_alloc ?_ _) | (with_reducible refine Kd.C_drewN ?_ _) | (with_reducible refine Kd.C_drew ?_))); (case side2 => exact HC0.out); rintro e w12 ⟨rfl, hb⟩; refine ⟨_, rfl, ?_⟩; have n0_ := Aside0.mk (below_step (by repeat (first | (with_reducible first | exact HB.out | apply below_alloc | apply pw_below_drewN | apply below_drew1) | exact HB.out)) hb); clear HB; have HB := n0_; clear n0_; (try clear hb); (try clear hb2); (try clear hk); (try clear hi)))
      (try simp only [Act.put, List.setIfInBounds_toArray, List.set_cons_zero, List.set_cons_succ])
      go_cut [60] (fun v60 wc => ∃ (kq : Nat) (x60_8 : Bool), v60 = .bool x60_8 ∧ Aside0 (trunnionlaw16_UtfReads.j0 kq l0 x60_8 = some r) ∧ Aside0 (kq ≤ k) ∧ Aside0 (Below w.heap.size w wc))
      case first =>
        have H := HC9.out
        clear HC9
        by_cases c13 : (t136 != (decide (t137 ≥ 0))) = true
        · rw [if_pos c13] at H
          have c13b0 : (t136 != (decide (t137 ≥ 0))) = true := c13
          (try (have c13b1 : decide (t136 = (decide (t137 ≥ 0))) = false := by simpa using c13))
          (try (have c13b2 : (t136 == (decide (t137 ≥ 0))) = false := by simpa using c13))
          (try (have c13b3 : ¬ (t136 = (decide (t137 ≥ 0))) := by simpa using c13))
          clear c13
          (first | rw [c13b0] | (simp only [i64_w, i32_w]; rw [c13b0]) | skip)
          have H' := Aside0.mk H
          clear H
          go_wp2
          go_meet
          case rel => exact ⟨_, (true), (by first | rfl | (simp; done) | (simp [*]; done)), H', ⟨by first | omega | exact Nat.le_refl _⟩, ⟨by repeat (first | (with_reducible first | exact HB.out | apply below_alloc | apply pw_below_drewN | apply below_drew1) | exact HB.out)⟩⟩
        · rw [if_neg c13] at H
          have c13b0 : (t136 != (decide (t137 ≥ 0))) = false := by simpa using c13
          (try (have c13b1 : decide (t136 = (decide (t137 ≥ 0))) = true := by simpa using c13))
          (try (have c13b2 : (t136 == (decide (t137 ≥ 0))) = true := by simpa using c13))
          clear c13
          (first | rw [c13b0] | (simp only [i64_w, i32_w]; rw [c13b0]) | skip)
          by_cases c14 : t136 = true
          · subst c14
            have H1 : (if (wrap64 (t134)) = t137 then (if t135 = t138 then (trunnionlaw16_UtfReads.j0 k l0 false) else (trunnionlaw16_UtfReads.j0 k l0 true)) else (trunnionlaw16_UtfReads.j0 k l0 true)) = some r := by rw [if_pos rfl] at H; exact H
            clear H
            have H := H1
            clear H1
            by_cases c15 : (wrap64 (t134)) = t137
            · rw [if_pos c15] at H
              have c15b0 : ((wrap64 (t134)) == t137) = true := beq_iff_eq.mpr c15
              have c15b1 : ((wrap64 (t134)) != t137) = false := bne_eq_false_iff_eq.mpr c15
              clear c15
              by_cases c16 : t135 = t138
              · rw [if_pos c16] at H
                have c16b0 : (t135 == t138) = true := beq_iff_eq.mpr c16
                have c16b1 : (t135 != t138) = false := bne_eq_false_iff_eq.mpr c16
                clear c16
                have H' := Aside0.mk H
                clear H
                go_wp2
                go_meet
                case rel => exact ⟨_, (false), (by first | rfl | (simp; done) | (simp [*]; done)), H', ⟨by first | omega | exact Nat.le_refl _⟩, ⟨by repeat (first | (with_reducible first | exact HB.out | apply below_alloc | apply pw_below_drewN | apply below_drew1) | exact HB.out)⟩⟩
              · rw [if_neg c16] at H
                have c16b0 : (t135 == t138) = false := beq_eq_false_iff_ne.mpr c16
                have c16b1 : (t135 != t138) = true := bne_iff_ne.mpr c16
                have H' := Aside0.mk H
                clear H
                go_wp2
                go_meet
                case rel => exact ⟨_, (true), (by first | rfl | (simp; done) | (simp [*]; done)), H', ⟨by first | omega | exact Nat.le_refl _⟩, ⟨by repeat (first | (with_reducible first | exact HB.out | apply below_alloc | apply pw_below_drewN | apply below_drew1) | exact HB.out)⟩⟩
            · rw [if_neg c15] at H
              have c15b0 : ((wrap64 (t134)) == t137) = false := beq_eq_false_iff_ne.mpr c15
              have c15b1 : ((wrap64 (t134)) != t137) = true := bne_iff_ne.mpr c15
              have H' := Aside0.mk H
              clear H
              go_wp2
              go_meet
              case rel => exact ⟨_, (true), (by first | rfl | (simp; done) | (simp [*]; done)), H', ⟨by first | omega | exact Nat.le_refl _⟩, ⟨by repeat (first | (with_reducible first | exact HB.out | apply below_alloc | apply pw_below_drewN | apply below_drew1) | exact HB.out)⟩⟩
          · replace c14 := Bool.eq_false_iff.mpr c14
            subst c14
            have H1 : (if t134 = 0 then (trunnionlaw16_UtfReads.j0 k l0 (t135 != 0)) else (trunnionlaw16_UtfReads.j0 k l0 true)) = some r := by rw [if_neg (show ¬ (false = true) by decide)] at H; exact H
            clear H
            have H := H1
            clear H1
            by_cases c17 : t134 = 0
            · rw [if_pos c17] at H
              have c17b0 : (t134 == 0) = true := beq_iff_eq.mpr c17
              have c17b1 : (t134 != 0) = false := bne_eq_false_iff_eq.mpr c17
              clear c17
              have H' := Aside0.mk H
              clear H
              go_wp2
              go_meet
              case rel => exact ⟨_, ((t135 != 0)), (by first | rfl | (simp; done) | (simp [*]; done)), H', ⟨by first | omega | exact Nat.le_refl _⟩, ⟨by repeat (first | (with_reducible first | exact HB.out | apply below_alloc | apply pw_below_drewN | apply below_drew1) | exact HB.out)⟩⟩
            · rw [if_neg c17] at H
              have c17b0 : (t134 == 0) = false := beq_eq_false_iff_ne.mpr c17
              have c17b1 : (t134 != 0) = true := bne_iff_ne.mpr c17
              have H' := Aside0.mk H
              clear H
              go_wp2
              go_meet
              case rel => exact ⟨_, (true), (by first | rfl | (simp; done) | (simp [*]; done)), H', ⟨by first | omega | exact Nat.le_refl _⟩, ⟨by repeat (first | (with_reducible first | exact HB.out | apply below_alloc | apply pw_below_drewN | apply below_drew1) | exact HB.out)⟩⟩
      case rest =>
        clear HC9
        try clear c1
        try clear p2
        try clear c3
        try clear c4
        try clear c5
        try clear c5b0
        try clear c5b1
        try clear p6
        try clear c13
        try clear c13b0
        try clear c13b1
        try clear c13b2
        try clear c14
        try clear c15
        try clear c15b0
        try clear c15b1
        try clear c16
        try clear c16b0
        try clear c16b1
        try clear c17
        try clear c17b0
        try clear c17b1
        obtain ⟨kq, x60_8, rfl, HA, HJ8, HB⟩ := hcut
        cases kq with
        | zero => exact absurd HA.out (by simp [trunnionlaw16_UtfReads.j0])
        | succ kj8 =>
          have H := HA.out
          clear HA
          simp only [trunnionlaw16_UtfReads.j0] at H
          by_cases c18 : x60_8 = true
          · subst c18
            have H1 : (some false) = some r := by rw [if_pos rfl] at H; exact H
            clear H
            have H := H1
            clear H1
            obtain rfl := Option.some.inj H
            go_wp2
            go_ret
            exact ⟨by first | rfl | (simp [errW_none, errW_some] <;> rfl) | (simp [*, errW_none, errW_some] <;> rfl), by repeat (first | (with_reducible first | exact HB.out | apply below_alloc | apply pw_below_drewN | apply below_drew1) | exact HB.out)⟩
          · replace c18 := Bool.eq_false_iff.mpr c18
            subst c18
            have H1 : ((utf_Count.f l0).bind fun bt139 => ((trunnionref16_Count.f kj8 l0).bind fun t141 => (if bt139.1 = (mx t141 0) then (if (bt139.2 == (decide (t141 ≥ 0))) = true then ((utf_Valid.f l0).bind fun t142 => (some (t142 == bt139.2))) else (some false)) else (some false)))) = some r := by rw [if_neg (show ¬ (false = true) by decide)] at H; exact H
            clear H
            have H := H1
            clear H1
            replace H := Option.bind_eq_some_iff.mp H
            obtain ⟨⟨t139, t140⟩, A190, H⟩ := H
            replace H : ((trunnionref16_Count.f kj8 l0).bind fun t141 => (if t139 = (mx t141 0) then (if (t140 == (decide (t141 ≥ 0))) = true then ((utf_Valid.f l0).bind fun t142 => (some (t142 == t140))) else (some false)) else (some false))) = some r := H
            have A19 := Aside0.mk A190
            clear A190
            replace H := Option.bind_eq_some_iff.mp H
            obtain ⟨t141, A200, H⟩ := H
            replace H : (if t139 = (mx t141 0) then (if (t140 == (decide (t141 ≥ 0))) = true then ((utf_Valid.f l0).bind fun t142 => (some (t142 == t140))) else (some false)) else (some false)) = some r := H
            have A20 := Aside0.mk A200
            clear A200
            obtain ⟨ji21, hji21⟩ : ∃ j_ : Int, (mx t141 0) = j_ := ⟨_, rfl⟩
            replace H : (if t139 = (ji21) then (if (t140 == (decide (t141 ≥ 0))) = true then ((utf_Valid.f l0).bind fun t142 => (some (t142 == t140))) else (some false)) else (some false)) = some r := by first | (rw [hji21] at H; exact H) | (simp only [hji21] at H ⊢; exact H)
            (try rw [hji21] at A19)
            (try rw [hji21] at A20)
            (try (have hji21l : 0 ≤ ji21 := by (rw [← hji21]; unfold mx; (repeat' split) <;> omega)))
            (try (have hji21m : 0 ≤ ji21 := by omega))
            have hji21_ : (if t141 < 0 then 0 else t141) = ji21 := hji21
            by_cases c22 : t139 = (ji21)
            · rw [if_pos c22] at H
              have c22b0 : (t139 == (ji21)) = true := beq_iff_eq.mpr c22
              have c22b1 : (t139 != (ji21)) = false := bne_eq_false_iff_eq.mpr c22
              clear c22
              by_cases c23 : (t140 == (decide (t141 ≥ 0))) = true
              · rw [if_pos c23] at H
                have c23b0 : (t140 == (decide (t141 ≥ 0))) = true := c23
                (try (have c23b1 : decide (t140 = (decide (t141 ≥ 0))) = true := by simpa using c23))
                (try (have c23b2 : (t140 == (decide (t141 ≥ 0))) = true := by simpa using c23))
                clear c23
                replace H := Option.bind_eq_some_iff.mp H
                obtain ⟨t142, A240, H⟩ := H
                replace H : (some (t142 == t140)) = some r := H
                have A24 := Aside0.mk A240
                clear A240
                obtain rfl := Option.some.inj H
                go_wp2_with (first | ((with_reducible refine gate_callee (f := 18) rfl ?_); refine goesL_ (some 63) rfl rfl Try.func18 (by kernel_rfl) rfl #[.slice A0 l0.length c0] rfl (by (try simp only [List.map_toArray, List.map_cons, List.map_nil]); first | done | rfl | (simp only [List.length_drop, List.length_take]; rfl)) ?_; (with_reducible refine (utf_Count.calls _ _ l0 t139 t140 _ ?side1 ?side2 A19.out).mono ?_); (case side1 => repeat (first | exact (Kd.C_below HR0.out HB.out) | (with_reducible refine Kd.C_alloc ?_ _) | (with_reducible refine Kd.C_drewN ?_ _) | (with_reducible refine Kd.C_drew ?_))); (case side2 => exact HC0.out); rintro e w25 ⟨rfl, hb⟩; refine ⟨_, rfl, ?_⟩; have n0_ := Aside0.mk (below_step (by repeat (first | (with_reducible first | exact HB.out | apply below_alloc | apply pw_below_drewN | apply below_drew1) | exact HB.out)) hb); clear HB; have HB := n0_; clear n0_; (try clear hb); (try clear hb2); (try clear hk); (try clear hi)) | ((with_reducible refine gate_callee (f := 19) rfl ?_); refine goesL_ (some 67) rfl rfl Try.func19 (by kernel_rfl) rfl #[.slice A0 l0.length c0] rfl (by (try simp only [List.map_toArray, List.map_cons, List.map_nil]); first | done | rfl | (simp only [List.length_drop, List.length_take]; rfl)) ?_; (with_reducible refine (trunnionref16_Count.calls kj8 _ _ l0 t141 _ ?side1 ?side2 A20.out).mono ?_); (case side1 => repeat (first | exact (Kd.C_below HR0.out HB.out) | (with_reducible refine Kd.C_alloc ?_ _) | (with_reducible refine Kd.C_drewN ?_ _) | (with_reducible refine Kd.C_drew ?_))); (case side2 => exact HC0.out); rintro e w26 ⟨rfl, hb⟩; refine ⟨_, rfl, ?_⟩; have n0_ := Aside0.mk (below_step (by repeat (first | (with_reducible first | exact HB.out | apply below_alloc | apply pw_below_drewN | apply below_drew1) | exact HB.out)) hb); clear HB; have HB := n0_; clear n0_; (try clear hb); (try clear hb2); (try clear hk); (try clear hi)) | (go_at_call 20; (with_reducible refine (utf_Valid.calls _ _ l0 t142 _ ?side1 ?side2 A24.out).mono ?_); (case side1 => repeat (first | exact (Kd.C_below HR0.out HB.out) | (with_reducible refine Kd.C_alloc ?_ _) | (with_reducible refine Kd.C_drewN ?_ _) | (with_reducible refine Kd.C_drew ?_))); (case side2 => exact HC0.out); rintro e w27 ⟨rfl, hb⟩; have n0_ := Aside0.mk (below_step (by repeat (first | (with_reducible first | exact HB.out | apply below_alloc | apply pw_below_drewN | apply below_drew1) | exact HB.out)) hb); clear HB; have HB := n0_; clear n0_; (try clear hb); (try clear hb2); (try clear hk); (try clear hi)))
                go_ret
                exact ⟨by first | rfl | (simp [errW_none, errW_some] <;> rfl) | (simp only [← hji21]; first | rfl | (simp [errW_none, errW_some] <;> rfl)) | (simp [*, errW_none, errW_some] <;> rfl), by repeat (first | (with_reducible first | exact HB.out | apply below_alloc | apply pw_below_drewN | apply below_drew1) | exact HB.out)⟩
              · rw [if_neg c23] at H
                have c23b0 : (t140 == (decide (t141 ≥ 0))) = false := by simpa using c23
                (try (have c23b1 : decide (t140 = (decide (t141 ≥ 0))) = false := by simpa using c23))
                (try (have c23b2 : (t140 == (decide (t141 ≥ 0))) = false := by simpa using c23))
                (try (have c23b3 : ¬ (t140 = (decide (t141 ≥ 0))) := by simpa using c23))
                clear c23
                obtain rfl := Option.some.inj H
                go_wp2_with (first | ((with_reducible refine gate_callee (f := 18) rfl ?_); refine goesL_ (some 63) rfl rfl Try.func18 (by kernel_rfl) rfl #[.slice A0 l0.length c0] rfl (by (try simp only [List.map_toArray, List.map_cons, List.map_nil]); first | done | rfl | (simp only [List.length_drop, List.length_take]; rfl)) ?_; (with_reducible refine (utf_Count.calls _ _ l0 t139 t140 _ ?side1 ?side2 A19.out).mono ?_); (case side1 => repeat (first | exact (Kd.C_below HR0.out HB.out) | (with_reducible refine Kd.C_alloc ?_ _) | (with_reducible refine Kd.C_drewN ?_ _) | (with_reducible refine Kd.C_drew ?_))); (case side2 => exact HC0.out); rintro e w28 ⟨rfl, hb⟩; refine ⟨_, rfl, ?_⟩; have n0_ := Aside0.mk (below_step (by repeat (first | (with_reducible first | exact HB.out | apply below_alloc | apply pw_below_drewN | apply below_drew1) | exact HB.out)) hb); clear HB; have HB := n0_; clear n0_; (try clear hb); (try clear hb2); (try clear hk); (try clear hi)) | ((with_reducible refine gate_callee (f := 19) rfl ?_); refine goesL_ (some 67) rfl rfl Try.func19 (by kernel_rfl) rfl #[.slice A0 l0.length c0] rfl (by (try simp only [List.map_toArray, List.map_cons, List.map_nil]); first | done | rfl | (simp only [List.length_drop, List.length_take]; rfl)) ?_; (with_reducible refine (trunnionref16_Count.calls kj8 _ _ l0 t141 _ ?side1 ?side2 A20.out).mono ?_); (case side1 => repeat (first | exact (Kd.C_below HR0.out HB.out) | (with_reducible refine Kd.C_alloc ?_ _) | (with_reducible refine Kd.C_drewN ?_ _) | (with_reducible refine Kd.C_drew ?_))); (case side2 => exact HC0.out); rintro e w29 ⟨rfl, hb⟩; refine ⟨_, rfl, ?_⟩; have n0_ := Aside0.mk (below_step (by repeat (first | (with_reducible first | exact HB.out | apply below_alloc | apply pw_below_drewN | apply below_drew1) | exact HB.out)) hb); clear HB; have HB := n0_; clear n0_; (try clear hb); (try clear hb2); (try clear hk); (try clear hi)))
                go_ret
                exact ⟨by first | rfl | (simp [errW_none, errW_some] <;> rfl) | (simp only [← hji21]; first | rfl | (simp [errW_none, errW_some] <;> rfl)) | (simp [*, errW_none, errW_some] <;> rfl), by repeat (first | (with_reducible first | exact HB.out | apply below_alloc | apply pw_below_drewN | apply below_drew1) | exact HB.out)⟩
            · rw [if_neg c22] at H
              have c22b0 : (t139 == (ji21)) = false := beq_eq_false_iff_ne.mpr c22
              have c22b1 : (t139 != (ji21)) = true := bne_iff_ne.mpr c22
              obtain rfl := Option.some.inj H
              go_wp2_with (first | ((with_reducible refine gate_callee (f := 18) rfl ?_); refine goesL_ (some 63) rfl rfl Try.func18 (by kernel_rfl) rfl #[.slice A0 l0.length c0] rfl (by (try simp only [List.map_toArray, List.map_cons, List.map_nil]); first | done | rfl | (simp only [List.length_drop, List.length_take]; rfl)) ?_; (with_reducible refine (utf_Count.calls _ _ l0 t139 t140 _ ?side1 ?side2 A19.out).mono ?_); (case side1 => repeat (first | exact (Kd.C_below HR0.out HB.out) | (with_reducible refine Kd.C_alloc ?_ _) | (with_reducible refine Kd.C_drewN ?_ _) | (with_reducible refine Kd.C_drew ?_))); (case side2 => exact HC0.out); rintro e w30 ⟨rfl, hb⟩; refine ⟨_, rfl, ?_⟩; have n0_ := Aside0.mk (below_step (by repeat (first | (with_reducible first | exact HB.out | apply below_alloc | apply pw_below_drewN | apply below_drew1) | exact HB.out)) hb); clear HB; have HB := n0_; clear n0_; (try clear hb); (try clear hb2); (try clear hk); (try clear hi)) | ((with_reducible refine gate_callee (f := 19) rfl ?_); refine goesL_ (some 67) rfl rfl Try.func19 (by kernel_rfl) rfl #[.slice A0 l0.length c0] rfl (by (try simp only [List.map_toArray, List.map_cons, List.map_nil]); first | done | rfl | (simp only [List.length_drop, List.length_take]; rfl)) ?_; (with_reducible refine (trunnionref16_Count.calls kj8 _ _ l0 t141 _ ?side1 ?side2 A20.out).mono ?_); (case side1 => repeat (first | exact (Kd.C_below HR0.out HB.out) | (with_reducible refine Kd.C_alloc ?_ _) | (with_reducible refine Kd.C_drewN ?_ _) | (with_reducible refine Kd.C_drew ?_))); (case side2 => exact HC0.out); rintro e w31 ⟨rfl, hb⟩; refine ⟨_, rfl, ?_⟩; have n0_ := Aside0.mk (below_step (by repeat (first | (with_reducible first | exact HB.out | apply below_alloc | apply pw_below_drewN | apply below_drew1) | exact HB.out)) hb); clear HB; have HB := n0_; clear n0_; (try clear hb); (try clear hb2); (try clear hk); (try clear hi)))
              go_ret
              exact ⟨by first | rfl | (simp [errW_none, errW_some] <;> rfl) | (simp only [← hji21]; first | rfl | (simp [errW_none, errW_some] <;> rfl)) | (simp [*, errW_none, errW_some] <;> rfl), by repeat (first | (with_reducible first | exact HB.out | apply below_alloc | apply pw_below_drewN | apply below_drew1) | exact HB.out)⟩
  · replace c4 := Bool.eq_false_iff.mpr c4
    subst c4
    have H1 : (some false) = some r := by rw [if_neg (show ¬ (false = true) by decide)] at H; exact H
    clear H
    have H := H1
    clear H1
    obtain rfl := Option.some.inj H
    go_enter Try.func3, Try.ntmps3
    go_wp2_with (first | ((with_reducible refine gate_callee (f := 15) rfl ?_); refine goesL_ (some 13) rfl rfl Try.func15 (by kernel_rfl) rfl #[] rfl (by (try simp only [List.map_toArray, List.map_cons, List.map_nil]); first | done | rfl | (simp only [List.length_drop, List.length_take]; rfl)) ?_; (with_reducible refine (trunnionlaw16_awake.calls  false _ A3.out).mono ?_); rintro e w32 ⟨rfl, hb⟩; refine ⟨_, rfl, ?_⟩; have n0_ := Aside0.mk (below_step (by repeat (first | (with_reducible first | exact HB.out | apply below_alloc | apply pw_below_drewN | apply below_drew1) | exact HB.out)) hb); clear HB; have HB := n0_; clear n0_; (try clear hb); (try clear hb2); (try clear hk); (try clear hi)))
    go_ret
    exact ⟨by first | rfl | (simp [errW_none, errW_some] <;> rfl) | (simp [*, errW_none, errW_some] <;> rfl), by repeat (first | (with_reducible first | exact HB.out | apply below_alloc | apply pw_below_drewN | apply below_drew1) | exact HB.out)⟩

/-- THE ONE PURE STATEMENT of trunnionlaw16_UtfReads: yours. -/
def trunnionlaw16_UtfReads.Pure : Prop := ∀ (l0 : List Int) (a1 : Int), l0.length ≤ maxLen → l0.length * 1 ≤ 140737488351232 → (∀ x ∈ l0, (Lit.int .u8 x).wf = true) → (Lit.int .i64 a1).wf = true → ∃ k, trunnionlaw16_UtfReads.f k l0 a1 = some true
theorem trunnionlaw16_UtfReads.walk (P : trunnionlaw16_UtfReads.Pure) (a0 : Option Addr) (len0 cap0 : Nat) (z0 : List Int) (a1 : Int) (w : World) (w0 : (a0 = none ∧ len0 = 0 ∧ cap0 = 0 ∧ z0 = []) ∨ ∃ x, a0 = some x ∧ len0 ≤ cap0 ∧ cap0 ≤ maxLen ∧ z0.length = cap0 ∧ (∀ i, i < z0.length → w.cell? (x.add i) = some (.int .u8 (z0.getD i 0))) ∧ ∀ n ∈ z0, (Lit.int .u8 n).wf = true) (y0 : len0 * 1 ≤ 140737488351232) (w1 : (Lit.int .i64 a1).wf = true) :
    Calls Try.prog 3 #[.slice a0 len0 cap0, .int .i64 a1] w fun e w' => e = .returned (.bool true) ∧ Below w.heap.size w w' := by
  obtain ⟨l0, rfl, hr0, hm0, hw0, hc0⟩ := ReadsInt.ofRowC w0
  obtain ⟨k, h⟩ := P l0 a1 hm0 y0 hw0 w1
  refine (trunnionlaw16_UtfReads.calls k _ _ l0 a1 true w (Kd.C_of_reads (d := (0 : Int)) (h1 := fun _ => rfl) hr0) hc0 h).mono ?_
  rintro e w' ⟨rfl, hd⟩
  exact ⟨rfl, hd⟩

end Go.Proofs.Ytjhdnlgbboboiaa.Q16
