-- Written by a program of ours (stubprint.py) that calls the kit's printer.
import Derived.Test.YtkpjdkmggbelfaaQ29x0
import Derived.Test.YtkpjdkmggbelfaaQ29x1
import Derived.Test.YtkpjdkmggbelfaaQ29x2
import Derived.Test.YtkpjdkmggbelfaaQ29x3
import Derived.Test.YtkpjdkmggbelfaaQ29x4
import Derived.Test.YtkpjdkmggbelfaaQ29x5
import Derived.Test.YtkpjdkmggbelfaaQ29x6
import Derived.Test.YtkpjdkmggbelfaaQ29x7
namespace Go.Proofs.Ytkpjdkmggbelfaa.Q29
open Go.RowKit Go.Proofs.YtkpjdkmggbelfaaW.PrintWords Go.Proofs.YtkpjdkmggbelfaaW.PrintLast Go.Proofs.YtkpjdkmggbelfaaW.PrintMore
attribute [local go_sem] max2_int min2_int max_two min_two max_three min_three max_four min_four   -- for this text's walks alone
set_option linter.unusedVariables false
set_option linter.unusedSimpArgs false

/-! ### trunnionlaw29_LinkMatches: function 3 -/
mutual
def trunnionlaw29_LinkMatches.j0 : Nat → List (S41) → List (S41) → Bool → Option (Bool)
  | 0, _, _, _ => none
  | k + 1, x0, x1, x24 => if x24 = true then (some true) else ((trunnionlaw24_Plain.f k x0).bind fun t126 => ((trunnionlaw24_Plain.f k x1).bind fun t129 => ((link_All.f x0 x1).bind fun bt132 => ((trunnionref29_All.f k t126 t129).bind fun bt134 => (if bt132.1 = bt134.1 then (trunnionlaw29_LinkMatches.j1 k x0 x1 t126 t129 (bt132.2 != bt134.2)) else (trunnionlaw29_LinkMatches.j1 k x0 x1 t126 t129 true))))))
def trunnionlaw29_LinkMatches.j1 : Nat → List (S41) → List (S41) → List (S46) → List (S46) → Bool → Option (Bool)
  | 0, _, _, _, _, _ => none
  | k + 1, x0, x1, x5, x6, x48 => if x48 = true then (some false) else (trunnionlaw29_LinkMatches.l0 k x1 x5 x6 x0 (x0.length : Int) 0)
def trunnionlaw29_LinkMatches.l0 : Nat → List (S41) → List (S46) → List (S46) → List (S41) → Int → Int → Option (Bool)
  | 0, _, _, _, _, _, _ => none
  | k + 1, x1, x5, x6, x49, x50, x51 => if x51 < x50 then (if 0 ≤ x51 then (if x51 < (x49.length : Int) then (trunnionlaw29_LinkMatches.l1 k x1 x5 x6 x51 x49 x50 x51 x1 (x1.length : Int) 0 ((rd_T41 x49 x51).f0) ((rd_T41 x49 x51).f1.f0) ((rd_T41 x49 x51).f1.f1) ((rd_T41 x49 x51).f2.f0) ((rd_T41 x49 x51).f2.f1) ((rd_T41 x49 x51).f2.f2) ((rd_T41 x49 x51).f3.f0) ((rd_T41 x49 x51).f3.f1)) else (none)) else (none)) else (some true)
def trunnionlaw29_LinkMatches.l1 : Nat → List (S41) → List (S46) → List (S46) → Int → List (S41) → Int → Int → List (S41) → Int → Int → Int → List Int → List Int → Int → Int → Bool → Int → Bool → Option (Bool)
  | 0, _, _, _, _, _, _, _, _, _, _, _, _, _, _, _, _, _, _ => none
  | k + 1, x1, x5, x6, x11, x49, x50, x51, x56, x57, x58, x138000, x138001, x138002, x138003, x138004, x138005, x138006, x138007 => if x58 < x57 then (if 0 ≤ x58 then (if x58 < (x56.length : Int) then ((link_Match.f x138000 x138001 x138002 x138003 x138004 x138005 x138006 x138007 ((rd_T41 x56 x58).f0) ((rd_T41 x56 x58).f1.f0) ((rd_T41 x56 x58).f1.f1) ((rd_T41 x56 x58).f2.f0) ((rd_T41 x56 x58).f2.f1) ((rd_T41 x56 x58).f2.f2) ((rd_T41 x56 x58).f3.f0) ((rd_T41 x56 x58).f3.f1)).bind fun t140 => (if 0 ≤ x11 then (if x11 < (x5.length : Int) then (if x58 < (x6.length : Int) then ((trunnionref29_Match.f ((rd_T46 x5 x11).f0) ((rd_T46 x5 x11).f1) ((rd_T46 x5 x11).f2) ((rd_T46 x5 x11).f3.f0) ((rd_T46 x5 x11).f3.f1) ((rd_T46 x5 x11).f3.f2) ((rd_T46 x5 x11).f4) ((rd_T46 x5 x11).f5) ((rd_T46 x6 x58).f0) ((rd_T46 x6 x58).f1) ((rd_T46 x6 x58).f2) ((rd_T46 x6 x58).f3.f0) ((rd_T46 x6 x58).f3.f1) ((rd_T46 x6 x58).f3.f2) ((rd_T46 x6 x58).f4) ((rd_T46 x6 x58).f5)).bind fun t143 => (if (t140 != t143) = true then (some false) else (trunnionlaw29_LinkMatches.l1 k x1 x5 x6 x11 x49 x50 x51 x56 x57 (wrap64 (x58 + 1)) x138000 x138001 x138002 x138003 x138004 x138005 x138006 x138007))) else (none)) else (none)) else (none))) else (none)) else (none)) else (trunnionlaw29_LinkMatches.l0 k x1 x5 x6 x49 x50 (wrap64 (x51 + 1)))
end
def trunnionlaw29_LinkMatches.f (k : Nat) (l0 : List (S41)) (l1 : List (S41)) : Option (Bool) := (trunnionlaw29_awake.f).bind fun t123 => (if t123 = true then ((trunnionlaw29_few.f k l0).bind fun t124 => (if t124 = true then ((trunnionlaw29_few.f k l1).bind fun t125 => (trunnionlaw29_LinkMatches.j0 k l0 l1 (!t125))) else (trunnionlaw29_LinkMatches.j0 k l0 l1 true))) else (some false))
theorem trunnionlaw29_LinkMatches.mono_l : ∀ k, (∀ y0 y1 y2, LeO (trunnionlaw29_LinkMatches.j0 k y0 y1 y2) (trunnionlaw29_LinkMatches.j0 (k + 1) y0 y1 y2)) ∧ (∀ y0 y1 y2 y3 y4, LeO (trunnionlaw29_LinkMatches.j1 k y0 y1 y2 y3 y4) (trunnionlaw29_LinkMatches.j1 (k + 1) y0 y1 y2 y3 y4)) ∧ (∀ y0 y1 y2 y3 y4 y5, LeO (trunnionlaw29_LinkMatches.l0 k y0 y1 y2 y3 y4 y5) (trunnionlaw29_LinkMatches.l0 (k + 1) y0 y1 y2 y3 y4 y5)) ∧ (∀ y0 y1 y2 y3 y4 y5 y6 y7 y8 y9 y10 y11 y12 y13 y14 y15 y16 y17, LeO (trunnionlaw29_LinkMatches.l1 k y0 y1 y2 y3 y4 y5 y6 y7 y8 y9 y10 y11 y12 y13 y14 y15 y16 y17) (trunnionlaw29_LinkMatches.l1 (k + 1) y0 y1 y2 y3 y4 y5 y6 y7 y8 y9 y10 y11 y12 y13 y14 y15 y16 y17))
  | 0 => ⟨fun _ _ _ r h => by simp [trunnionlaw29_LinkMatches.j0] at h, fun _ _ _ _ _ r h => by simp [trunnionlaw29_LinkMatches.j1] at h, fun _ _ _ _ _ _ r h => by simp [trunnionlaw29_LinkMatches.l0] at h, fun _ _ _ _ _ _ _ _ _ _ _ _ _ _ _ _ _ _ r h => by simp [trunnionlaw29_LinkMatches.l1] at h⟩
  | k + 1 => by
    obtain ⟨ih0, ih1, ih2, ih3⟩ := trunnionlaw29_LinkMatches.mono_l k
    refine ⟨?_, ?_, ?_, ?_⟩
    · intro y0 y1 y2
      unfold trunnionlaw29_LinkMatches.j0
      repeat' first
      | (with_reducible exact ih0 _ _ _)
      | (with_reducible exact ih1 _ _ _ _ _)
      | (with_reducible exact ih2 _ _ _ _ _ _)
      | (with_reducible exact ih3 _ _ _ _ _ _ _ _ _ _ _ _ _ _ _ _ _ _)
      | (with_reducible exact trunnionlaw24_Plain.mono _ _)
      | (with_reducible exact trunnionlaw29_few.mono _ _)
      | (with_reducible exact trunnionref29_All.mono _ _ _)
      | (with_reducible exact LeO.refl _)
      | (with_reducible exact LeO.none _)
      | (with_reducible refine LeO.ite ?_ ?_)
      | (with_reducible refine LeO.bind ?_ (fun _ => ?_))
      | exact ih0 _ _ _
      | exact ih1 _ _ _ _ _
      | exact ih2 _ _ _ _ _ _
      | exact ih3 _ _ _ _ _ _ _ _ _ _ _ _ _ _ _ _ _ _
      | exact trunnionlaw24_Plain.mono _ _
      | exact trunnionlaw29_few.mono _ _
      | exact trunnionref29_All.mono _ _ _
      | exact LeO.none _
      | refine LeO.ite ?_ ?_
      | refine LeO.bind ?_ (fun _ => ?_)
    · intro y0 y1 y2 y3 y4
      unfold trunnionlaw29_LinkMatches.j1
      repeat' first
      | (with_reducible exact ih0 _ _ _)
      | (with_reducible exact ih1 _ _ _ _ _)
      | (with_reducible exact ih2 _ _ _ _ _ _)
      | (with_reducible exact ih3 _ _ _ _ _ _ _ _ _ _ _ _ _ _ _ _ _ _)
      | (with_reducible exact trunnionlaw24_Plain.mono _ _)
      | (with_reducible exact trunnionlaw29_few.mono _ _)
      | (with_reducible exact trunnionref29_All.mono _ _ _)
      | (with_reducible exact LeO.refl _)
      | (with_reducible exact LeO.none _)
      | (with_reducible refine LeO.ite ?_ ?_)
      | (with_reducible refine LeO.bind ?_ (fun _ => ?_))
      | exact ih0 _ _ _
      | exact ih1 _ _ _ _ _
      | exact ih2 _ _ _ _ _ _
      | exact ih3 _ _ _ _ _ _ _ _ _ _ _ _ _ _ _ _ _ _
      | exact trunnionlaw24_Plain.mono _ _
      | exact trunnionlaw29_few.mono _ _
      | exact trunnionref29_All.mono _ _ _
      | exact LeO.none _
      | refine LeO.ite ?_ ?_
      | refine LeO.bind ?_ (fun _ => ?_)
    · intro y0 y1 y2 y3 y4 y5
      unfold trunnionlaw29_LinkMatches.l0
      repeat' first
      | (with_reducible exact ih0 _ _ _)
      | (with_reducible exact ih1 _ _ _ _ _)
      | (with_reducible exact ih2 _ _ _ _ _ _)
      | (with_reducible exact ih3 _ _ _ _ _ _ _ _ _ _ _ _ _ _ _ _ _ _)
      | (with_reducible exact trunnionlaw24_Plain.mono _ _)
      | (with_reducible exact trunnionlaw29_few.mono _ _)
      | (with_reducible exact trunnionref29_All.mono _ _ _)
      | (with_reducible exact LeO.refl _)
      | (with_reducible exact LeO.none _)
      | (with_reducible refine LeO.ite ?_ ?_)
      | (with_reducible refine LeO.bind ?_ (fun _ => ?_))
      | exact ih0 _ _ _
      | exact ih1 _ _ _ _ _
      | exact ih2 _ _ _ _ _ _
      | exact ih3 _ _ _ _ _ _ _ _ _ _ _ _ _ _ _ _ _ _
      | exact trunnionlaw24_Plain.mono _ _
      | exact trunnionlaw29_few.mono _ _
      | exact trunnionref29_All.mono _ _ _
      | exact LeO.none _
      | refine LeO.ite ?_ ?_
      | refine LeO.bind ?_ (fun _ => ?_)
    · intro y0 y1 y2 y3 y4 y5 y6 y7 y8 y9 y10 y11 y12 y13 y14 y15 y16 y17
      unfold trunnionlaw29_LinkMatches.l1
      repeat' first
      | (with_reducible exact ih0 _ _ _)
      | (with_reducible exact ih1 _ _ _ _ _)
      | (with_reducible exact ih2 _ _ _ _ _ _)
      | (with_reducible exact ih3 _ _ _ _ _ _ _ _ _ _ _ _ _ _ _ _ _ _)
      | (with_reducible exact trunnionlaw24_Plain.mono _ _)
      | (with_reducible exact trunnionlaw29_few.mono _ _)
      | (with_reducible exact trunnionref29_All.mono _ _ _)
      | (with_reducible exact LeO.refl _)
      | (with_reducible exact LeO.none _)
      | (with_reducible refine LeO.ite ?_ ?_)
      | (with_reducible refine LeO.bind ?_ (fun _ => ?_))
      | exact ih0 _ _ _
      | exact ih1 _ _ _ _ _
      | exact ih2 _ _ _ _ _ _
      | exact ih3 _ _ _ _ _ _ _ _ _ _ _ _ _ _ _ _ _ _
      | exact trunnionlaw24_Plain.mono _ _
      | exact trunnionlaw29_few.mono _ _
      | exact trunnionref29_All.mono _ _ _
      | exact LeO.none _
      | refine LeO.ite ?_ ?_
      | refine LeO.bind ?_ (fun _ => ?_)
theorem trunnionlaw29_LinkMatches.mono : ∀ a0 a1 k, LeO (trunnionlaw29_LinkMatches.f k a0 a1) (trunnionlaw29_LinkMatches.f (k + 1) a0 a1) := by
  intro a0 a1 k
  obtain ⟨ih0, ih1, ih2, ih3⟩ := trunnionlaw29_LinkMatches.mono_l k
  unfold trunnionlaw29_LinkMatches.f
  repeat' first
      | (with_reducible exact ih0 _ _ _)
      | (with_reducible exact ih1 _ _ _ _ _)
      | (with_reducible exact ih2 _ _ _ _ _ _)
      | (with_reducible exact ih3 _ _ _ _ _ _ _ _ _ _ _ _ _ _ _ _ _ _)
      | (with_reducible exact trunnionlaw24_Plain.mono _ _)
      | (with_reducible exact trunnionlaw29_few.mono _ _)
      | (with_reducible exact trunnionref29_All.mono _ _ _)
      | (with_reducible exact LeO.refl _)
      | (with_reducible exact LeO.none _)
      | (with_reducible refine LeO.ite ?_ ?_)
      | (with_reducible refine LeO.bind ?_ (fun _ => ?_))
      | exact ih0 _ _ _
      | exact ih1 _ _ _ _ _
      | exact ih2 _ _ _ _ _ _
      | exact ih3 _ _ _ _ _ _ _ _ _ _ _ _ _ _ _ _ _ _
      | exact trunnionlaw24_Plain.mono _ _
      | exact trunnionlaw29_few.mono _ _
      | exact trunnionref29_All.mono _ _ _
      | exact LeO.none _
      | refine LeO.ite ?_ ?_
      | refine LeO.bind ?_ (fun _ => ?_)
def trunnionlaw29_LinkMatches.T16 : Bool × List (List Nat × List Nat) := (true, [([], []), ([], []), ([0, 1], [0, 1]), ([], []), ([], []), ([3, 4], [3, 4]), ([5], [5]), ([], []), ([], []), ([7, 8], [7, 8]), ([9], [9]), ([6, 10, 2], [6, 10]), ([2, 11], [2, 11])])
def trunnionlaw29_LinkMatches.B16 : List Nat := [0, 0, 3, 0, 0, 24, 56, 0, 0, 384, 896, 2047, 4095]
theorem trunnionlaw29_LinkMatches.tab16 : rtab .any (opsOf Try.f3 16) = trunnionlaw29_LinkMatches.T16 := by kernel_rfl
theorem trunnionlaw29_LinkMatches.bits16 : waitsOk trunnionlaw29_LinkMatches.T16.2 trunnionlaw29_LinkMatches.B16 = true := by kernel_rfl
set_option maxHeartbeats 8000000 in
set_option maxRecDepth 100000 in
theorem trunnionlaw29_LinkMatches.calls (k : Nat) (A0 : Option Addr) (c0 : Nat) (l0 : List (S41)) (A1 : Option Addr) (c1 : Nat) (l1 : List (S41)) (r : Bool) (w : World) (hr0 : Kd.C k41 w A0 l0.length l0) (hc0 : l0.length ≤ c0) (hr1 : Kd.C k41 w A1 l1.length l1) (hc1 : l1.length ≤ c1) (h : trunnionlaw29_LinkMatches.f k l0 l1 = some r) :
    Calls Try.prog 3 #[.slice A0 l0.length c0, .slice A1 l1.length c1] w fun e w' => e = .returned (.bool r) ∧ Below w.heap.size w w' := by
  have hu41 := Try.underlying41
  have hu46 := Try.underlying46
  have HR0 := Aside0.mk hr0
  have HC0 := Aside0.mk hc0
  clear hr0 hc0
  have HR1 := Aside0.mk hr1
  have HC1 := Aside0.mk hc1
  clear hr1 hc1
  have HB := Aside0.mk (Below.refl w.heap.size w)
  have H : ((trunnionlaw29_awake.f).bind fun t123 => (if t123 = true then ((trunnionlaw29_few.f k l0).bind fun t124 => (if t124 = true then ((trunnionlaw29_few.f k l1).bind fun t125 => (trunnionlaw29_LinkMatches.j0 k l0 l1 (!t125))) else (trunnionlaw29_LinkMatches.j0 k l0 l1 true))) else (some false))) = some r := h
  clear h
  replace H := Option.bind_eq_some_iff.mp H
  obtain ⟨t123, A30, H⟩ := H
  replace H : (if t123 = true then ((trunnionlaw29_few.f k l0).bind fun t124 => (if t124 = true then ((trunnionlaw29_few.f k l1).bind fun t125 => (trunnionlaw29_LinkMatches.j0 k l0 l1 (!t125))) else (trunnionlaw29_LinkMatches.j0 k l0 l1 true))) else (some false)) = some r := H
  have A3 := Aside0.mk A30
  clear A30
  by_cases c4 : t123 = true
  · subst c4
    have H1 : ((trunnionlaw29_few.f k l0).bind fun t124 => (if t124 = true then ((trunnionlaw29_few.f k l1).bind fun t125 => (trunnionlaw29_LinkMatches.j0 k l0 l1 (!t125))) else (trunnionlaw29_LinkMatches.j0 k l0 l1 true))) = some r := by rw [if_pos rfl] at H; exact H
    clear H
    have H := H1
    clear H1
    have HC5 := Aside0.mk H
    clear H
    go_enter Try.func3, Try.ntmps3
    go_upto_region 3 with (first | ((with_reducible refine gate_callee (f := 12) rfl ?_); refine goesL_ (some 15) rfl rfl Try.func12 (by kernel_rfl) rfl #[] rfl (by (try simp only [List.map_toArray, List.map_cons, List.map_nil]); first | done | rfl | (simp only [List.length_drop, List.length_take]; rfl)) ?_; (with_reducible refine (trunnionlaw29_awake.calls  true _ A3.out).mono ?_); rintro e w6 ⟨rfl, hb⟩; refine ⟨_, rfl, ?_⟩; have n0_ := Aside0.mk (below_step (by repeat (first | (with_reducible first | exact HB.out | apply below_alloc | apply pw_below_drewN | apply below_drew1) | exact HB.out)) hb); clear HB; have HB := n0_; clear n0_; (try clear hb); (try clear hb2); (try clear hk); (try clear hi)))
    (try simp only [Act.put, List.setIfInBounds_toArray, List.set_cons_zero, List.set_cons_succ])
    go_cut [24] (fun v24 wc => ∃ (kq : Nat) (x24_4 : Bool), v24 = .bool x24_4 ∧ Aside0 (trunnionlaw29_LinkMatches.j0 kq l0 l1 x24_4 = some r) ∧ Aside0 (kq ≤ k) ∧ Aside0 (Below w.heap.size w wc))
    case first =>
      have H := HC5.out
      clear HC5
      replace H := Option.bind_eq_some_iff.mp H
      obtain ⟨t124, A70, H⟩ := H
      replace H : (if t124 = true then ((trunnionlaw29_few.f k l1).bind fun t125 => (trunnionlaw29_LinkMatches.j0 k l0 l1 (!t125))) else (trunnionlaw29_LinkMatches.j0 k l0 l1 true)) = some r := H
      have A7 := Aside0.mk A70
      clear A70
      by_cases c8 : t124 = true
      · subst c8
        have H1 : ((trunnionlaw29_few.f k l1).bind fun t125 => (trunnionlaw29_LinkMatches.j0 k l0 l1 (!t125))) = some r := by rw [if_pos rfl] at H; exact H
        clear H
        have H := H1
        clear H1
        replace H := Option.bind_eq_some_iff.mp H
        obtain ⟨t125, A90, H⟩ := H
        replace H : (trunnionlaw29_LinkMatches.j0 k l0 l1 (!t125)) = some r := H
        have A9 := Aside0.mk A90
        clear A90
        have H' := Aside0.mk H
        clear H
        go_wp2_with (first | ((with_reducible refine gate_callee (f := 13) rfl ?_); refine goesL_ (some 18) rfl rfl Try.func13 (by kernel_rfl) rfl #[.slice A0 l0.length c0] rfl (by (try simp only [List.map_toArray, List.map_cons, List.map_nil]); first | done | rfl | (simp only [List.length_drop, List.length_take]; rfl)) ?_; (with_reducible refine (trunnionlaw29_few.calls k _ _ l0 true _ ?side1 ?side2 A7.out).mono ?_); (case side1 => repeat (first | exact (Kd.C_below HR0.out HB.out) | (with_reducible refine Kd.C_alloc ?_ _) | (with_reducible refine Kd.C_drewN ?_ _) | (with_reducible refine Kd.C_drew ?_))); (case side2 => exact HC0.out); rintro e w10 ⟨rfl, hb⟩; refine ⟨_, rfl, ?_⟩; have n0_ := Aside0.mk (below_step (by repeat (first | (with_reducible first | exact HB.out | apply below_alloc | apply pw_below_drewN | apply below_drew1) | exact HB.out)) hb); clear HB; have HB := n0_; clear n0_; (try clear hb); (try clear hb2); (try clear hk); (try clear hi)) | (go_at_call 13; (with_reducible refine (trunnionlaw29_few.calls k _ _ l1 t125 _ ?side1 ?side2 A9.out).mono ?_); (case side1 => repeat (first | exact (Kd.C_below HR1.out HB.out) | (with_reducible refine Kd.C_alloc ?_ _) | (with_reducible refine Kd.C_drewN ?_ _) | (with_reducible refine Kd.C_drew ?_))); (case side2 => exact HC1.out); rintro e w11 ⟨rfl, hb⟩; have n0_ := Aside0.mk (below_step (by repeat (first | (with_reducible first | exact HB.out | apply below_alloc | apply pw_below_drewN | apply below_drew1) | exact HB.out)) hb); clear HB; have HB := n0_; clear n0_; (try clear hb); (try clear hb2); (try clear hk); (try clear hi)))
        go_meet
        case rel => exact ⟨_, (!t125), (by first | rfl | (simp; done) | (simp [*]; done)), H', ⟨by first | omega | exact Nat.le_refl _⟩, ⟨by repeat (first | (with_reducible first | exact HB.out | apply below_alloc | apply pw_below_drewN | apply below_drew1) | exact HB.out)⟩⟩
      · replace c8 := Bool.eq_false_iff.mpr c8
        subst c8
        have H1 : (trunnionlaw29_LinkMatches.j0 k l0 l1 true) = some r := by rw [if_neg (show ¬ (false = true) by decide)] at H; exact H
        clear H
        have H := H1
        clear H1
        have H' := Aside0.mk H
        clear H
        go_wp2_with (first | ((with_reducible refine gate_callee (f := 13) rfl ?_); refine goesL_ (some 18) rfl rfl Try.func13 (by kernel_rfl) rfl #[.slice A0 l0.length c0] rfl (by (try simp only [List.map_toArray, List.map_cons, List.map_nil]); first | done | rfl | (simp only [List.length_drop, List.length_take]; rfl)) ?_; (with_reducible refine (trunnionlaw29_few.calls k _ _ l0 false _ ?side1 ?side2 A7.out).mono ?_); (case side1 => repeat (first | exact (Kd.C_below HR0.out HB.out) | (with_reducible refine Kd.C_alloc ?_ _) | (with_reducible refine Kd.C_drewN ?_ _) | (with_reducible refine Kd.C_drew ?_))); (case side2 => exact HC0.out); rintro e w12 ⟨rfl, hb⟩; refine ⟨_, rfl, ?_⟩; have n0_ := Aside0.mk (below_step (by repeat (first | (with_reducible first | exact HB.out | apply below_alloc | apply pw_below_drewN | apply below_drew1) | exact HB.out)) hb); clear HB; have HB := n0_; clear n0_; (try clear hb); (try clear hb2); (try clear hk); (try clear hi)))
        go_meet
        case rel => exact ⟨_, (true), (by first | rfl | (simp; done) | (simp [*]; done)), H', ⟨by first | omega | exact Nat.le_refl _⟩, ⟨by repeat (first | (with_reducible first | exact HB.out | apply below_alloc | apply pw_below_drewN | apply below_drew1) | exact HB.out)⟩⟩
    case rest =>
      clear HC5
      try clear c1
      try clear p2
      try clear c3
      try clear c4
      try clear c8
      try clear c12
      obtain ⟨kq, x24_4, rfl, HA, HJ4, HB⟩ := hcut
      cases kq with
      | zero => exact absurd HA.out (by simp [trunnionlaw29_LinkMatches.j0])
      | succ kj4 =>
        have H := HA.out
        clear HA
        simp only [trunnionlaw29_LinkMatches.j0] at H
        by_cases c13 : x24_4 = true
        · subst c13
          have H1 : (some true) = some r := by rw [if_pos rfl] at H; exact H
          clear H
          have H := H1
          clear H1
          obtain rfl := Option.some.inj H
          go_wp2
          go_ret
          exact ⟨by first | rfl | (simp [errW_none, errW_some] <;> rfl) | (simp [*, errW_none, errW_some] <;> rfl), by repeat (first | (with_reducible first | exact HB.out | apply below_alloc | apply pw_below_drewN | apply below_drew1) | exact HB.out)⟩
        · replace c13 := Bool.eq_false_iff.mpr c13
          subst c13
          have H1 : ((trunnionlaw24_Plain.f kj4 l0).bind fun t126 => ((trunnionlaw24_Plain.f kj4 l1).bind fun t129 => ((link_All.f l0 l1).bind fun bt132 => ((trunnionref29_All.f kj4 t126 t129).bind fun bt134 => (if bt132.1 = bt134.1 then (trunnionlaw29_LinkMatches.j1 kj4 l0 l1 t126 t129 (bt132.2 != bt134.2)) else (trunnionlaw29_LinkMatches.j1 kj4 l0 l1 t126 t129 true)))))) = some r := by rw [if_neg (show ¬ (false = true) by decide)] at H; exact H
          clear H
          have H := H1
          clear H1
          replace H := Option.bind_eq_some_iff.mp H
          obtain ⟨t126, A140, H⟩ := H
          replace H : ((trunnionlaw24_Plain.f kj4 l1).bind fun t129 => ((link_All.f l0 l1).bind fun bt132 => ((trunnionref29_All.f kj4 t126 t129).bind fun bt134 => (if bt132.1 = bt134.1 then (trunnionlaw29_LinkMatches.j1 kj4 l0 l1 t126 t129 (bt132.2 != bt134.2)) else (trunnionlaw29_LinkMatches.j1 kj4 l0 l1 t126 t129 true))))) = some r := H
          have A14 := Aside0.mk A140
          clear A140
          replace H := Option.bind_eq_some_iff.mp H
          obtain ⟨t129, A150, H⟩ := H
          replace H : ((link_All.f l0 l1).bind fun bt132 => ((trunnionref29_All.f kj4 t126 t129).bind fun bt134 => (if bt132.1 = bt134.1 then (trunnionlaw29_LinkMatches.j1 kj4 l0 l1 t126 t129 (bt132.2 != bt134.2)) else (trunnionlaw29_LinkMatches.j1 kj4 l0 l1 t126 t129 true)))) = some r := H
          have A15 := Aside0.mk A150
          clear A150
          replace H := Option.bind_eq_some_iff.mp H
          obtain ⟨⟨t132, t133⟩, A160, H⟩ := H
          replace H : ((trunnionref29_All.f kj4 t126 t129).bind fun bt134 => (if t132 = bt134.1 then (trunnionlaw29_LinkMatches.j1 kj4 l0 l1 t126 t129 (t133 != bt134.2)) else (trunnionlaw29_LinkMatches.j1 kj4 l0 l1 t126 t129 true))) = some r := H
          have A16 := Aside0.mk A160
          clear A160
          replace H := Option.bind_eq_some_iff.mp H
          obtain ⟨⟨t134, t135⟩, A170, H⟩ := H
          replace H : (if t132 = t134 then (trunnionlaw29_LinkMatches.j1 kj4 l0 l1 t126 t129 (t133 != t135)) else (trunnionlaw29_LinkMatches.j1 kj4 l0 l1 t126 t129 true)) = some r := H
          have A17 := Aside0.mk A170
          clear A170
          have HC18 := Aside0.mk H
          clear H
          go_upto_region 8 with (first | ((with_reducible refine gate_callee (f := 14) rfl ?_); refine goesL_ (some 26) rfl rfl Try.func14 (by kernel_rfl) rfl #[.slice A0 l0.length c0] rfl (by (try simp only [List.map_toArray, List.map_cons, List.map_nil]); first | done | rfl | (simp only [List.length_drop, List.length_take]; rfl)) ?_; (with_reducible refine (trunnionlaw24_Plain.calls kj4 (fun k_ => k_ < w.heap.size) _ _ l0 t126 _ ?side1 A14.out).mono ?_); (case side1 => exact Kd.V_mk HC0.out (Kd.F_below (Kd.C_F k41_heap HR0.out) (by repeat (first | (with_reducible first | exact HB.out | apply below_alloc | apply pw_below_drewN | apply below_drew1) | exact HB.out)))); rintro e w19 ⟨v127, rfl, ho0, hb⟩; refine ⟨_, rfl, ?_⟩; have n0_ := Aside0.mk (Kd.N_lower (Kd.N_mono (ok' := fun k_ => True) ho0 (fun k_ hk_ => trivial)) (below_size (by repeat (first | (with_reducible first | exact HB.out | apply below_alloc | apply pw_below_drewN | apply below_drew1) | exact HB.out)))); have n1_ := Aside0.mk (below_step (by repeat (first | (with_reducible first | exact HB.out | apply below_alloc | apply pw_below_drewN | apply below_drew1) | exact HB.out)) hb); clear HB; have HO128 := n0_; have HB := n1_; clear n0_ n1_; (try clear hb); (try clear hb2); (try clear hk); (try clear hi); (try clear ho0)) | ((with_reducible refine gate_callee (f := 14) rfl ?_); refine goesL_ (some 28) rfl rfl Try.func14 (by kernel_rfl) rfl #[.slice A1 l1.length c1] rfl (by (try simp only [List.map_toArray, List.map_cons, List.map_nil]); first | done | rfl | (simp only [List.length_drop, List.length_take]; rfl)) ?_; (with_reducible refine (trunnionlaw24_Plain.calls kj4 (fun k_ => k_ < w.heap.size) _ _ l1 t129 _ ?side1 A15.out).mono ?_); (case side1 => exact Kd.V_mk HC1.out (Kd.F_below (Kd.C_F k41_heap HR1.out) (by repeat (first | (with_reducible first | exact HB.out | apply below_alloc | apply pw_below_drewN | apply below_drew1) | exact HB.out)))); rintro e w20 ⟨v130, rfl, ho0, hb⟩; refine ⟨_, rfl, ?_⟩; have n0_ := Aside0.mk (Kd.N_elder' (by (with_reducible repeat (first | apply Kd.N_alloc | apply Kd.N_drewN | apply Kd.N_drew)); exact HO128.out) (Kd.N_base ho0) hb); have n1_ := Aside0.mk (Kd.N_lower (Kd.N_mono (ok' := fun k_ => some k_ ≠ (v127 : Value).ownBlock) ho0 (fun k_ hk_ => Or.elim hk_ (fun hs_ => fun e_ => Nat.not_le.2 hs_ (Kd.N_base HO128.out k_ e_.symm)) (fun hn_ => (Kd.fresh' (Kd.N_lt (by (with_reducible repeat (first | apply Kd.N_alloc | apply Kd.N_drewN | apply Kd.N_drew)); exact HO128.out)) k_ hn_)))) (below_size (by repeat (first | (with_reducible first | exact HB.out | apply below_alloc | apply pw_below_drewN | apply below_drew1) | exact HB.out)))); have n2_ := Aside0.mk (below_step (by repeat (first | (with_reducible first | exact HB.out | apply below_alloc | apply pw_below_drewN | apply below_drew1) | exact HB.out)) hb); clear HO128; clear HB; have HO128 := n0_; have HO131 := n1_; have HB := n2_; clear n0_ n1_ n2_; (try clear hb); (try clear hb2); (try clear hk); (try clear hi); (try clear ho0)) | ((with_reducible refine gate_callee (f := 15) rfl ?_); refine goesL_ (some 32) rfl rfl Try.func15 (by kernel_rfl) rfl #[.slice A0 l0.length c0, .slice A1 l1.length c1] rfl (by (try simp only [List.map_toArray, List.map_cons, List.map_nil]); first | done | rfl | (simp only [List.length_drop, List.length_take]; rfl)) ?_; (with_reducible refine (link_All.calls _ _ l0 _ _ l1 t132 t133 _ ?side1 ?side2 ?side3 ?side4 A16.out).mono ?_); (case side1 => repeat (first | exact (Kd.C_below HR0.out HB.out) | (with_reducible refine Kd.C_alloc ?_ _) | (with_reducible refine Kd.C_drewN ?_ _) | (with_reducible refine Kd.C_drew ?_))); (case side2 => exact HC0.out); (case side3 => repeat (first | exact (Kd.C_below HR1.out HB.out) | (with_reducible refine Kd.C_alloc ?_ _) | (with_reducible refine Kd.C_drewN ?_ _) | (with_reducible refine Kd.C_drew ?_))); (case side4 => exact HC1.out); rintro e w21 ⟨rfl, hb⟩; refine ⟨_, rfl, ?_⟩; have n0_ := Aside0.mk (Kd.N_below (by (with_reducible repeat (first | apply Kd.N_alloc | apply Kd.N_drewN | apply Kd.N_drew)); exact HO128.out) hb); have n1_ := Aside0.mk (Kd.N_below (by (with_reducible repeat (first | apply Kd.N_alloc | apply Kd.N_drewN | apply Kd.N_drew)); exact HO131.out) hb); have n2_ := Aside0.mk (below_step (by repeat (first | (with_reducible first | exact HB.out | apply below_alloc | apply pw_below_drewN | apply below_drew1) | exact HB.out)) hb); clear HO128; clear HO131; clear HB; have HO128 := n0_; have HO131 := n1_; have HB := n2_; clear n0_ n1_ n2_; (try clear hb); (try clear hb2); (try clear hk); (try clear hi); obtain ⟨Ao22, co22, eo22⟩ := Kd.N_slice HO128.out; subst eo22; obtain ⟨Ao23, co23, eo23⟩ := Kd.N_slice HO131.out; subst eo23) | ((with_reducible refine gate_callee (f := 16) rfl ?_); refine goesL_ (some 38) rfl rfl Try.func16 (by kernel_rfl) rfl #[.slice Ao22 t126.length co22, .slice Ao23 t129.length co23] rfl (by (try simp only [List.map_toArray, List.map_cons, List.map_nil]); first | done | rfl | (simp only [List.length_drop, List.length_take]; rfl)) ?_; (with_reducible refine (trunnionref29_All.calls kj4 _ _ t126 _ _ t129 t134 t135 _ ?side1 ?side2 ?side3 ?side4 A17.out).mono ?_); (case side1 => repeat (first | exact (Kd.N_reads' HO128.out).2.2 | (with_reducible refine Kd.C_alloc ?_ _) | (with_reducible refine Kd.C_drewN ?_ _) | (with_reducible refine Kd.C_drew ?_))); (case side2 => exact (Kd.N_reads' HO128.out).2.1); (case side3 => repeat (first | exact (Kd.N_reads' HO131.out).2.2 | (with_reducible refine Kd.C_alloc ?_ _) | (with_reducible refine Kd.C_drewN ?_ _) | (with_reducible refine Kd.C_drew ?_))); (case side4 => exact (Kd.N_reads' HO131.out).2.1); rintro e w24 ⟨rfl, hb⟩; refine ⟨_, rfl, ?_⟩; have n0_ := Aside0.mk (Kd.N_below (by (with_reducible repeat (first | apply Kd.N_alloc | apply Kd.N_drewN | apply Kd.N_drew)); exact HO128.out) hb); have n1_ := Aside0.mk (Kd.N_below (by (with_reducible repeat (first | apply Kd.N_alloc | apply Kd.N_drewN | apply Kd.N_drew)); exact HO131.out) hb); have n2_ := Aside0.mk (below_step (by repeat (first | (with_reducible first | exact HB.out | apply below_alloc | apply pw_below_drewN | apply below_drew1) | exact HB.out)) hb); clear HO128; clear HO131; clear HB; have HO128 := n0_; have HO131 := n1_; have HB := n2_; clear n0_ n1_ n2_; (try clear hb); (try clear hb2); (try clear hk); (try clear hi)))
          (try simp only [Act.put, List.setIfInBounds_toArray, List.set_cons_zero, List.set_cons_succ])
          go_cut [48] (fun v48 wc => ∃ (kq : Nat) (x48_17 : Bool), v48 = .bool x48_17 ∧ Aside0 (trunnionlaw29_LinkMatches.j1 kq l0 l1 t126 t129 x48_17 = some r) ∧ Aside0 (kq ≤ kj4) ∧ Aside0 (Kd.N k46 46 wc w.heap.size (fun k_ => some k_ ≠ ((.slice Ao23 t129.length co23) : Value).ownBlock) (.slice Ao22 t126.length co22) t126) ∧ Aside0 (Kd.N k46 46 wc w.heap.size (fun k_ => some k_ ≠ ((.slice Ao22 t126.length co22) : Value).ownBlock) (.slice Ao23 t129.length co23) t129) ∧ Aside0 (Below w.heap.size w wc))
          case first =>
            have H := HC18.out
            clear HC18
            by_cases c25 : t132 = t134
            · rw [if_pos c25] at H
              have c25b0 : (t132 == t134) = true := beq_iff_eq.mpr c25
              have c25b1 : (t132 != t134) = false := bne_eq_false_iff_eq.mpr c25
              clear c25
              (first | rw [c25b0] | (simp only [i64_w, i32_w]; rw [c25b0]) | skip)
              have H' := Aside0.mk H
              clear H
              go_wp2
              go_meet
              case rel => exact ⟨_, ((t133 != t135)), (by first | rfl | (simp; done) | (simp [*]; done)), H', ⟨by have := HJ4.out; first | omega | exact Nat.le_refl _⟩, ⟨by (with_reducible repeat (first | apply Kd.N_alloc | apply Kd.N_drewN | apply Kd.N_drew)); exact Kd.N_mono HO128.out (fun _ hk => hk.2)⟩, ⟨by (with_reducible repeat (first | apply Kd.N_alloc | apply Kd.N_drewN | apply Kd.N_drew)); exact HO131.out⟩, ⟨by repeat (first | (with_reducible first | exact HB.out | apply below_alloc | apply pw_below_drewN | apply below_drew1) | exact HB.out)⟩⟩
            · rw [if_neg c25] at H
              have c25b0 : (t132 == t134) = false := beq_eq_false_iff_ne.mpr c25
              have c25b1 : (t132 != t134) = true := bne_iff_ne.mpr c25
              (first | rw [c25b0] | (simp only [i64_w, i32_w]; rw [c25b0]) | skip)
              have H' := Aside0.mk H
              clear H
              go_wp2
              go_meet
              case rel => exact ⟨_, (true), (by first | rfl | (simp; done) | (simp [*]; done)), H', ⟨by have := HJ4.out; first | omega | exact Nat.le_refl _⟩, ⟨by (with_reducible repeat (first | apply Kd.N_alloc | apply Kd.N_drewN | apply Kd.N_drew)); exact Kd.N_mono HO128.out (fun _ hk => hk.2)⟩, ⟨by (with_reducible repeat (first | apply Kd.N_alloc | apply Kd.N_drewN | apply Kd.N_drew)); exact HO131.out⟩, ⟨by repeat (first | (with_reducible first | exact HB.out | apply below_alloc | apply pw_below_drewN | apply below_drew1) | exact HB.out)⟩⟩
          case rest =>
            clear HC18
            try clear c1
            try clear c2
            try clear p2
            try clear c3
            try clear c4
            try clear c8
            try clear c12
            try clear c13
            try clear c14
            try clear c15
            try clear c16
            try clear c25
            try clear c25b0
            try clear c25b1
            try clear p2
            obtain ⟨kq, x48_17, rfl, HA, HJ17, HO_5, HO_6, HB⟩ := hcut
            cases kq with
            | zero => exact absurd HA.out (by simp [trunnionlaw29_LinkMatches.j1])
            | succ kj17 =>
              have H := HA.out
              clear HA
              simp only [trunnionlaw29_LinkMatches.j1] at H
              by_cases c26 : x48_17 = true
              · subst c26
                have H1 : (some false) = some r := by rw [if_pos rfl] at H; exact H
                clear H
                have H := H1
                clear H1
                obtain rfl := Option.some.inj H
                go_wp2
                go_ret
                exact ⟨by first | rfl | (simp [errW_none, errW_some] <;> rfl) | (simp [*, errW_none, errW_some] <;> rfl), by repeat (first | (with_reducible first | exact HB.out | apply below_alloc | apply pw_below_drewN | apply below_drew1) | exact HB.out)⟩
              · replace c26 := Bool.eq_false_iff.mpr c26
                subst c26
                have H1 : (trunnionlaw29_LinkMatches.l0 kj17 l1 t126 t129 l0 (l0.length : Int) 0) = some r := by rw [if_neg (show ¬ (false = true) by decide)] at H; exact H
                clear H
                have H := H1
                clear H1
                have H' := Aside0.mk H
                clear H
                go_wp2
                go_loopg [51] kj17 (fun kq v51 w' => ∃ (x51_3 : Int), v51 = .int .i64 x51_3 ∧ Aside0 (trunnionlaw29_LinkMatches.l0 kq l1 t126 t129 l0 (l0.length : Int) x51_3 = some r) ∧ Aside0 (kq ≤ kj17) ∧ Aside0 (Kd.N k46 46 w' w.heap.size (fun k_ => some k_ ≠ ((.slice Ao23 t129.length co23) : Value).ownBlock) (.slice Ao22 t126.length co22) t126) ∧ Aside0 (Kd.N k46 46 w' w.heap.size (fun k_ => some k_ ≠ ((.slice Ao22 t126.length co22) : Value).ownBlock) (.slice Ao23 t129.length co23) t129) ∧ Aside0 (Below w.heap.size w w'))
                case atStart => exact ⟨(0), (by first | rfl | (simp; done) | (simp [*]; done)), H', ⟨Nat.le_refl _⟩, ⟨by (with_reducible repeat (first | apply Kd.N_alloc | apply Kd.N_drewN | apply Kd.N_drew)); exact HO_5.out⟩, ⟨by (with_reducible repeat (first | apply Kd.N_alloc | apply Kd.N_drewN | apply Kd.N_drew)); exact HO_6.out⟩, ⟨by repeat (first | (with_reducible first | exact HB.out | apply below_alloc | apply pw_below_drewN | apply below_drew1) | exact HB.out)⟩⟩
                case round =>
                  clear H'
                  try clear c1
                  try clear c2
                  try clear p2
                  try clear c3
                  try clear c4
                  try clear c8
                  try clear c12
                  try clear c13
                  try clear c14
                  try clear c15
                  try clear c16
                  try clear c25
                  try clear c25b0
                  try clear c25b1
                  try clear c26
                  try clear p2
                  obtain ⟨x51_3, rfl, HA, HK3, HO_5, HO_6, HB⟩ := hrel
                  cases gk with
                  | zero => exact absurd HA.out (by simp [trunnionlaw29_LinkMatches.l0])
                  | succ k3 =>
                    have H := HA.out
                    clear HA
                    simp only [trunnionlaw29_LinkMatches.l0] at H
                    by_cases c27 : x51_3 < (l0.length : Int)
                    · rw [if_pos c27] at H
                      have c27b0 : decide (x51_3 < (l0.length : Int)) = true := decide_eq_true c27
                      clear c27
                      by_cases c28 : 0 ≤ x51_3
                      · rw [if_pos c28] at H
                        have c28b0 : decide (0 ≤ x51_3) = true := decide_eq_true c28
                        clear c28
                        by_cases c29 : x51_3 < (l0.length : Int)
                        · rw [if_pos c29] at H
                          have c29b0 : decide (x51_3 < (l0.length : Int)) = true := decide_eq_true c29
                          clear c29
                          have H' := Aside0.mk H
                          clear H
                          have p136 : 0 ≤ (x51_3 : Int) := of_decide_eq_true (by first | (with_reducible assumption) | assumption)
                          have q136 : x51_3 < (l0.length : Int) := of_decide_eq_true (by first | (with_reducible assumption) | assumption)
                          obtain ⟨ad136, A136_1, c136_1, A136_2, c136_2, e136, hx136_0, hx136_1, hx136_2, hx136_3, hx136_4, hx136_5, hx136_6, hx136_7, hl136_1, hi136_1, hl136_2, hi136_2⟩ := at_T41 HR0.out x51_3 p136 q136
                          cases e136
                          replace hx136_0 := (HB.out.cell (World.block_lt_of_cell? w _ hx136_0)).trans hx136_0
                          replace hx136_1 := (HB.out.cell (World.block_lt_of_cell? w _ hx136_1)).trans hx136_1
                          replace hx136_2 := (HB.out.cell (World.block_lt_of_cell? w _ hx136_2)).trans hx136_2
                          replace hx136_3 := (HB.out.cell (World.block_lt_of_cell? w _ hx136_3)).trans hx136_3
                          replace hx136_4 := (HB.out.cell (World.block_lt_of_cell? w _ hx136_4)).trans hx136_4
                          replace hx136_5 := (HB.out.cell (World.block_lt_of_cell? w _ hx136_5)).trans hx136_5
                          replace hx136_6 := (HB.out.cell (World.block_lt_of_cell? w _ hx136_6)).trans hx136_6
                          replace hx136_7 := (HB.out.cell (World.block_lt_of_cell? w _ hx136_7)).trans hx136_7
                          have HR136_1 := Aside0.mk hi136_1
                          have HC136_1 := Aside0.mk hl136_1
                          clear hi136_1 hl136_1
                          have HR136_2 := Aside0.mk hi136_2
                          have HC136_2 := Aside0.mk hl136_2
                          clear hi136_2 hl136_2
                          replace p136 := eq_true p136
                          replace q136 := eq_true q136
                          go_wp2_with (first | ((with_reducible refine gate_dst (N := 12) rfl ?_); refine box_event ?hg (N := 12) ?hd (cs := #[.int .i64 0, .slice none 0 0, .slice none 0 0, .int .u32 0, .int .u32 0, .bool false, .int .u8 0, .bool false]) (t := 41) ?hr ?_; (case hd => rfl); (case hg => rfl); (case hr => first | (go_simp; done) | (go_simp; rfl)); intro gb137 hg w30 hbox hb; have n0_ := Aside0.mk (Kd.N_below (Kd.N_elderB (by (with_reducible repeat (first | apply Kd.N_alloc | apply Kd.N_drewN | apply Kd.N_drew)); exact HO_5.out) gb137 (Nat.le_of_eq hg.symm)) hb); have n1_ := Aside0.mk (Kd.N_below (Kd.N_elderB (by (with_reducible repeat (first | apply Kd.N_alloc | apply Kd.N_drewN | apply Kd.N_drew)); exact HO_6.out) gb137 (Nat.le_of_eq hg.symm)) hb); have n2_ := Aside0.mk (below_step (by repeat (first | (with_reducible first | exact HB.out | apply below_alloc | apply pw_below_drewN | apply below_drew1) | exact HB.out)) hb); have n3_ := Aside0.mk (hbox); have n4_ := Aside0.mk ((by rw [hg]; exact (below_size (by repeat (first | (with_reducible first | exact HB.out | apply below_alloc | apply pw_below_drewN | apply below_drew1) | exact HB.out))) : w.heap.size ≤ gb137)); have n5_ := Aside0.mk ((by rw [hg]; exact (below_size (by repeat (first | (with_reducible first | exact HB.out | apply below_alloc | apply pw_below_drewN | apply below_drew1) | exact HB.out))) : w.heap.size ≤ gb137)); clear HO_5; clear HO_6; clear HB; have HO_5 := n0_; have HO_6 := n1_; have HB := n2_; have BK137 := n3_; have GW137 := n4_; have GE137 := n5_; clear n0_ n1_ n2_ n3_ n4_ n5_; clear hb hbox hg; have hcz31_0 : w30.cell? ⟨gb137, 0, none⟩ = some (.int .i64 0) := (blk_cell BK137.out 0).trans rfl; have hcz31_1 : w30.cell? ⟨gb137, 1, none⟩ = some (.slice none 0 0) := (blk_cell BK137.out 1).trans rfl; have hcz31_2 : w30.cell? ⟨gb137, 2, none⟩ = some (.slice none 0 0) := (blk_cell BK137.out 2).trans rfl; have hcz31_3 : w30.cell? ⟨gb137, 3, none⟩ = some (.int .u32 0) := (blk_cell BK137.out 3).trans rfl; have hcz31_4 : w30.cell? ⟨gb137, 4, none⟩ = some (.int .u32 0) := (blk_cell BK137.out 4).trans rfl; have hcz31_5 : w30.cell? ⟨gb137, 5, none⟩ = some (.bool false) := (blk_cell BK137.out 5).trans rfl; have hcz31_6 : w30.cell? ⟨gb137, 6, none⟩ = some (.int .u8 0) := (blk_cell BK137.out 6).trans rfl; have hcz31_7 : w30.cell? ⟨gb137, 7, none⟩ = some (.bool false) := (blk_cell BK137.out 7).trans rfl; have hfz31_0 := blk_frozen BK137.out 0; have hfz31_1 := blk_frozen BK137.out 1; have hfz31_2 := blk_frozen BK137.out 2; have hfz31_3 := blk_frozen BK137.out 3; have hfz31_4 := blk_frozen BK137.out 4; have hfz31_5 := blk_frozen BK137.out 5; have hfz31_6 := blk_frozen BK137.out 6; have hfz31_7 := blk_frozen BK137.out 7))
                          go_loopg [58] k3 (fun kq v58 w' => ∃ (x58_4 : Int), v58 = .int .i64 x58_4 ∧ Aside0 (trunnionlaw29_LinkMatches.l1 kq l1 t126 t129 x51_3 l0 (l0.length : Int) x51_3 l1 (l1.length : Int) x58_4 ((rd_T41 l0 x51_3).f0) ((rd_T41 l0 x51_3).f1.f0) ((rd_T41 l0 x51_3).f1.f1) ((rd_T41 l0 x51_3).f2.f0) ((rd_T41 l0 x51_3).f2.f1) ((rd_T41 l0 x51_3).f2.f2) ((rd_T41 l0 x51_3).f3.f0) ((rd_T41 l0 x51_3).f3.f1) = some r) ∧ Aside0 (kq ≤ k3) ∧ Aside0 (Kd.N k46 46 w' w.heap.size (fun k_ => some k_ ≠ ((.slice Ao23 t129.length co23) : Value).ownBlock ∧ k_ ≠ gb137) (.slice Ao22 t126.length co22) t126) ∧ Aside0 (Kd.N k46 46 w' w.heap.size (fun k_ => some k_ ≠ ((.slice Ao22 t126.length co22) : Value).ownBlock ∧ k_ ≠ gb137) (.slice Ao23 t129.length co23) t129) ∧ Aside0 (w'.heap[gb137]? = some (.cells #[.int .i64 ((rd_T41 l0 x51_3).f0), (.slice A136_1 ((rd_T41 l0 x51_3).f1.f0).length c136_1), (.slice A136_2 ((rd_T41 l0 x51_3).f1.f1).length c136_2), .int .u32 ((rd_T41 l0 x51_3).f2.f0), .int .u32 ((rd_T41 l0 x51_3).f2.f1), .bool ((rd_T41 l0 x51_3).f2.f2), .int .u8 ((rd_T41 l0 x51_3).f3.f0), .bool ((rd_T41 l0 x51_3).f3.f1)] 41 (0, 0))) ∧ Aside0 (Below w.heap.size w w'))
                          case atStart => exact ⟨(0), (by first | rfl | (simp; done) | (simp [*]; done)), H', ⟨Nat.le_refl _⟩, ⟨by (with_reducible repeat (first | apply Kd.N_alloc | apply Kd.N_drewN | apply Kd.N_drew)); exact Kd.N_mono (Kd.N_far (p := ⟨gb137, 7, none⟩) (Kd.N_far (p := ⟨gb137, 6, none⟩) (Kd.N_far (p := ⟨gb137, 5, none⟩) (Kd.N_far (p := ⟨gb137, 4, none⟩) (Kd.N_far (p := ⟨gb137, 3, none⟩) (Kd.N_far (p := ⟨gb137, 2, none⟩) (Kd.N_far (p := ⟨gb137, 1, none⟩) (Kd.N_far (p := ⟨gb137, 0, none⟩) (Kd.N_mono HO_5.out (fun k_ hk => (⟨hk, hk.2⟩ : _ ∧ k_ ≠ gb137))) (fun _ hk => hk.2) (.int .i64 ((rd_T41 l0 x51_3).f0))) (fun _ hk => hk.2) (.slice A136_1 ((rd_T41 l0 x51_3).f1.f0).length c136_1)) (fun _ hk => hk.2) (.slice A136_2 ((rd_T41 l0 x51_3).f1.f1).length c136_2)) (fun _ hk => hk.2) (.int .u32 ((rd_T41 l0 x51_3).f2.f0))) (fun _ hk => hk.2) (.int .u32 ((rd_T41 l0 x51_3).f2.f1))) (fun _ hk => hk.2) (.bool ((rd_T41 l0 x51_3).f2.f2))) (fun _ hk => hk.2) (.int .u8 ((rd_T41 l0 x51_3).f3.f0))) (fun _ hk => hk.2) (.bool ((rd_T41 l0 x51_3).f3.f1))) (fun _ hk => ⟨hk.1.1, hk.1.2⟩)⟩, ⟨by (with_reducible repeat (first | apply Kd.N_alloc | apply Kd.N_drewN | apply Kd.N_drew)); exact Kd.N_mono (Kd.N_far (p := ⟨gb137, 7, none⟩) (Kd.N_far (p := ⟨gb137, 6, none⟩) (Kd.N_far (p := ⟨gb137, 5, none⟩) (Kd.N_far (p := ⟨gb137, 4, none⟩) (Kd.N_far (p := ⟨gb137, 3, none⟩) (Kd.N_far (p := ⟨gb137, 2, none⟩) (Kd.N_far (p := ⟨gb137, 1, none⟩) (Kd.N_far (p := ⟨gb137, 0, none⟩) (Kd.N_mono HO_6.out (fun k_ hk => (⟨hk, hk.2⟩ : _ ∧ k_ ≠ gb137))) (fun _ hk => hk.2) (.int .i64 ((rd_T41 l0 x51_3).f0))) (fun _ hk => hk.2) (.slice A136_1 ((rd_T41 l0 x51_3).f1.f0).length c136_1)) (fun _ hk => hk.2) (.slice A136_2 ((rd_T41 l0 x51_3).f1.f1).length c136_2)) (fun _ hk => hk.2) (.int .u32 ((rd_T41 l0 x51_3).f2.f0))) (fun _ hk => hk.2) (.int .u32 ((rd_T41 l0 x51_3).f2.f1))) (fun _ hk => hk.2) (.bool ((rd_T41 l0 x51_3).f2.f2))) (fun _ hk => hk.2) (.int .u8 ((rd_T41 l0 x51_3).f3.f0))) (fun _ hk => hk.2) (.bool ((rd_T41 l0 x51_3).f3.f1))) (fun _ hk => ⟨hk.1.1, hk.1.2⟩)⟩, ⟨by (with_reducible repeat (first | refine blk_drewN ?_ _ | refine blk_drew ?_ | refine blk_alloc ?_ _)); refine blk_put (cs := #[.int .i64 ((rd_T41 l0 x51_3).f0), .slice A136_1 ((rd_T41 l0 x51_3).f1.f0).length c136_1, .slice A136_2 ((rd_T41 l0 x51_3).f1.f1).length c136_2, .int .u32 ((rd_T41 l0 x51_3).f2.f0), .int .u32 ((rd_T41 l0 x51_3).f2.f1), .bool ((rd_T41 l0 x51_3).f2.f2), .int .u8 ((rd_T41 l0 x51_3).f3.f0), .bool false]) ?_ 7 _ rfl; (with_reducible repeat (first | refine blk_drewN ?_ _ | refine blk_drew ?_ | refine blk_alloc ?_ _)); refine blk_put (cs := #[.int .i64 ((rd_T41 l0 x51_3).f0), .slice A136_1 ((rd_T41 l0 x51_3).f1.f0).length c136_1, .slice A136_2 ((rd_T41 l0 x51_3).f1.f1).length c136_2, .int .u32 ((rd_T41 l0 x51_3).f2.f0), .int .u32 ((rd_T41 l0 x51_3).f2.f1), .bool ((rd_T41 l0 x51_3).f2.f2), .int .u8 0, .bool false]) ?_ 6 _ rfl; (with_reducible repeat (first | refine blk_drewN ?_ _ | refine blk_drew ?_ | refine blk_alloc ?_ _)); refine blk_put (cs := #[.int .i64 ((rd_T41 l0 x51_3).f0), .slice A136_1 ((rd_T41 l0 x51_3).f1.f0).length c136_1, .slice A136_2 ((rd_T41 l0 x51_3).f1.f1).length c136_2, .int .u32 ((rd_T41 l0 x51_3).f2.f0), .int .u32 ((rd_T41 l0 x51_3).f2.f1), .bool false, .int .u8 0, .bool false]) ?_ 5 _ rfl; (with_reducible repeat (first | refine blk_drewN ?_ _ | refine blk_drew ?_ | refine blk_alloc ?_ _)); refine blk_put (cs := #[.int .i64 ((rd_T41 l0 x51_3).f0), .slice A136_1 ((rd_T41 l0 x51_3).f1.f0).length c136_1, .slice A136_2 ((rd_T41 l0 x51_3).f1.f1).length c136_2, .int .u32 ((rd_T41 l0 x51_3).f2.f0), .int .u32 0, .bool false, .int .u8 0, .bool false]) ?_ 4 _ rfl; (with_reducible repeat (first | refine blk_drewN ?_ _ | refine blk_drew ?_ | refine blk_alloc ?_ _)); refine blk_put (cs := #[.int .i64 ((rd_T41 l0 x51_3).f0), .slice A136_1 ((rd_T41 l0 x51_3).f1.f0).length c136_1, .slice A136_2 ((rd_T41 l0 x51_3).f1.f1).length c136_2, .int .u32 0, .int .u32 0, .bool false, .int .u8 0, .bool false]) ?_ 3 _ rfl; (with_reducible repeat (first | refine blk_drewN ?_ _ | refine blk_drew ?_ | refine blk_alloc ?_ _)); refine blk_put (cs := #[.int .i64 ((rd_T41 l0 x51_3).f0), .slice A136_1 ((rd_T41 l0 x51_3).f1.f0).length c136_1, .slice none 0 0, .int .u32 0, .int .u32 0, .bool false, .int .u8 0, .bool false]) ?_ 2 _ rfl; (with_reducible repeat (first | refine blk_drewN ?_ _ | refine blk_drew ?_ | refine blk_alloc ?_ _)); refine blk_put (cs := #[.int .i64 ((rd_T41 l0 x51_3).f0), .slice none 0 0, .slice none 0 0, .int .u32 0, .int .u32 0, .bool false, .int .u8 0, .bool false]) ?_ 1 _ rfl; (with_reducible repeat (first | refine blk_drewN ?_ _ | refine blk_drew ?_ | refine blk_alloc ?_ _)); refine blk_put (cs := #[.int .i64 0, .slice none 0 0, .slice none 0 0, .int .u32 0, .int .u32 0, .bool false, .int .u8 0, .bool false]) ?_ 0 _ rfl; (with_reducible repeat (first | refine blk_drewN ?_ _ | refine blk_drew ?_ | refine blk_alloc ?_ _)); exact BK137.out⟩, ⟨by repeat (first | (with_reducible first | exact HB.out | apply below_alloc | apply pw_below_drewN | apply below_drew1 | refine below_set ?_ GE137.out) | exact HB.out)⟩⟩
                          case round =>
                            clear H'
                            try clear c1
                            try clear p1
                            try clear q1
                            try clear hx1
                            try clear c2
                            try clear p2
                            try clear c3
                            try clear c4
                            try clear c8
                            try clear c12
                            try clear c13
                            try clear p13
                            try clear q13
                            try clear hx13
                            try clear c14
                            try clear c15
                            try clear c16
                            try clear c25
                            try clear c25b0
                            try clear c25b1
                            try clear c26
                            try clear c27
                            try clear c27b0
                            try clear c28
                            try clear c28b0
                            try clear c29
                            try clear c29b0
                            try clear hcz31_0
                            try clear hcz31_1
                            try clear hcz31_2
                            try clear hcz31_3
                            try clear hcz31_4
                            try clear hcz31_5
                            try clear hcz31_6
                            try clear hcz31_7
                            try clear hfz31_0
                            try clear hfz31_1
                            try clear hfz31_2
                            try clear hfz31_3
                            try clear hfz31_4
                            try clear hfz31_5
                            try clear hfz31_6
                            try clear hfz31_7
                            try clear hx136_0
                            try clear hx136_1
                            try clear hx136_2
                            try clear hx136_3
                            try clear hx136_4
                            try clear hx136_5
                            try clear hx136_6
                            try clear hx136_7
                            try clear p136
                            try clear p2
                            try clear q136
                            obtain ⟨x58_4, rfl, HA, HK4, HO_5, HO_6, BK137, HB⟩ := hrel
                            cases gk with
                            | zero => exact absurd HA.out (by simp [trunnionlaw29_LinkMatches.l1])
                            | succ k4 =>
                              have H := HA.out
                              clear HA
                              simp only [trunnionlaw29_LinkMatches.l1] at H
                              by_cases c32 : x58_4 < (l1.length : Int)
                              · rw [if_pos c32] at H
                                have c32b0 : decide (x58_4 < (l1.length : Int)) = true := decide_eq_true c32
                                clear c32
                                by_cases c33 : 0 ≤ x58_4
                                · rw [if_pos c33] at H
                                  have c33b0 : decide (0 ≤ x58_4) = true := decide_eq_true c33
                                  clear c33
                                  by_cases c34 : x58_4 < (l1.length : Int)
                                  · rw [if_pos c34] at H
                                    have c34b0 : decide (x58_4 < (l1.length : Int)) = true := decide_eq_true c34
                                    clear c34
                                    replace H := Option.bind_eq_some_iff.mp H
                                    obtain ⟨t140, A350, H⟩ := H
                                    replace H : (if 0 ≤ x51_3 then (if x51_3 < (t126.length : Int) then (if x58_4 < (t129.length : Int) then ((trunnionref29_Match.f ((rd_T46 t126 x51_3).f0) ((rd_T46 t126 x51_3).f1) ((rd_T46 t126 x51_3).f2) ((rd_T46 t126 x51_3).f3.f0) ((rd_T46 t126 x51_3).f3.f1) ((rd_T46 t126 x51_3).f3.f2) ((rd_T46 t126 x51_3).f4) ((rd_T46 t126 x51_3).f5) ((rd_T46 t129 x58_4).f0) ((rd_T46 t129 x58_4).f1) ((rd_T46 t129 x58_4).f2) ((rd_T46 t129 x58_4).f3.f0) ((rd_T46 t129 x58_4).f3.f1) ((rd_T46 t129 x58_4).f3.f2) ((rd_T46 t129 x58_4).f4) ((rd_T46 t129 x58_4).f5)).bind fun t143 => (if (t140 != t143) = true then (some false) else (trunnionlaw29_LinkMatches.l1 k4 l1 t126 t129 x51_3 l0 (l0.length : Int) x51_3 l1 (l1.length : Int) (wrap64 (x58_4 + 1)) ((rd_T41 l0 x51_3).f0) ((rd_T41 l0 x51_3).f1.f0) ((rd_T41 l0 x51_3).f1.f1) ((rd_T41 l0 x51_3).f2.f0) ((rd_T41 l0 x51_3).f2.f1) ((rd_T41 l0 x51_3).f2.f2) ((rd_T41 l0 x51_3).f3.f0) ((rd_T41 l0 x51_3).f3.f1)))) else (none)) else (none)) else (none)) = some r := H
                                    have A35 := Aside0.mk A350
                                    clear A350
                                    by_cases c36 : 0 ≤ x51_3
                                    · rw [if_pos c36] at H
                                      have c36b0 : decide (0 ≤ x51_3) = true := decide_eq_true c36
                                      clear c36
                                      by_cases c37 : x51_3 < (t126.length : Int)
                                      · rw [if_pos c37] at H
                                        have c37b0 : decide (x51_3 < (t126.length : Int)) = true := decide_eq_true c37
                                        clear c37
                                        by_cases c38 : x58_4 < (t129.length : Int)
                                        · rw [if_pos c38] at H
                                          have c38b0 : decide (x58_4 < (t129.length : Int)) = true := decide_eq_true c38
                                          clear c38
                                          replace H := Option.bind_eq_some_iff.mp H
                                          obtain ⟨t143, A390, H⟩ := H
                                          replace H : (if (t140 != t143) = true then (some false) else (trunnionlaw29_LinkMatches.l1 k4 l1 t126 t129 x51_3 l0 (l0.length : Int) x51_3 l1 (l1.length : Int) (wrap64 (x58_4 + 1)) ((rd_T41 l0 x51_3).f0) ((rd_T41 l0 x51_3).f1.f0) ((rd_T41 l0 x51_3).f1.f1) ((rd_T41 l0 x51_3).f2.f0) ((rd_T41 l0 x51_3).f2.f1) ((rd_T41 l0 x51_3).f2.f2) ((rd_T41 l0 x51_3).f3.f0) ((rd_T41 l0 x51_3).f3.f1))) = some r := H
                                          have A39 := Aside0.mk A390
                                          clear A390
                                          by_cases c40 : (t140 != t143) = true
                                          · rw [if_pos c40] at H
                                            have c40b0 : (t140 != t143) = true := c40
                                            (try (have c40b1 : decide (t140 = t143) = false := by simpa using c40))
                                            (try (have c40b2 : (t140 == t143) = false := by simpa using c40))
                                            (try (have c40b3 : ¬ (t140 = t143) := by simpa using c40))
                                            clear c40
                                            obtain rfl := Option.some.inj H
                                            have p138 : 0 ≤ (x58_4 : Int) := of_decide_eq_true (by first | (with_reducible assumption) | assumption)
                                            have q138 : x58_4 < (l1.length : Int) := of_decide_eq_true (by first | (with_reducible assumption) | assumption)
                                            obtain ⟨ad138, A138_1, c138_1, A138_2, c138_2, e138, hx138_0, hx138_1, hx138_2, hx138_3, hx138_4, hx138_5, hx138_6, hx138_7, hl138_1, hi138_1, hl138_2, hi138_2⟩ := at_T41 HR1.out x58_4 p138 q138
                                            cases e138
                                            replace hx138_0 := (HB.out.cell (World.block_lt_of_cell? w _ hx138_0)).trans hx138_0
                                            replace hx138_1 := (HB.out.cell (World.block_lt_of_cell? w _ hx138_1)).trans hx138_1
                                            replace hx138_2 := (HB.out.cell (World.block_lt_of_cell? w _ hx138_2)).trans hx138_2
                                            replace hx138_3 := (HB.out.cell (World.block_lt_of_cell? w _ hx138_3)).trans hx138_3
                                            replace hx138_4 := (HB.out.cell (World.block_lt_of_cell? w _ hx138_4)).trans hx138_4
                                            replace hx138_5 := (HB.out.cell (World.block_lt_of_cell? w _ hx138_5)).trans hx138_5
                                            replace hx138_6 := (HB.out.cell (World.block_lt_of_cell? w _ hx138_6)).trans hx138_6
                                            replace hx138_7 := (HB.out.cell (World.block_lt_of_cell? w _ hx138_7)).trans hx138_7
                                            have HR138_1 := Aside0.mk hi138_1
                                            have HC138_1 := Aside0.mk hl138_1
                                            clear hi138_1 hl138_1
                                            have HR138_2 := Aside0.mk hi138_2
                                            have HC138_2 := Aside0.mk hl138_2
                                            clear hi138_2 hl138_2
                                            replace p138 := eq_true p138
                                            replace q138 := eq_true q138
                                            try go_wp2_with (first | ((with_reducible refine gate_dst (N := 14) rfl ?_); refine box_event ?hg (N := 14) ?hd (cs := #[.int .i64 0, .slice none 0 0, .slice none 0 0, .int .u32 0, .int .u32 0, .bool false, .int .u8 0, .bool false]) (t := 41) ?hr ?_; (case hd => rfl); (case hg => rfl); (case hr => first | (go_simp; done) | (go_simp; rfl)); intro gb139 hg w41 hbox hb; have n0_ := Aside0.mk (Kd.N_below (Kd.N_elderB (by (with_reducible repeat (first | apply Kd.N_alloc | apply Kd.N_drewN | apply Kd.N_drew)); exact HO_5.out) gb139 (Nat.le_of_eq hg.symm)) hb); have n1_ := Aside0.mk (Kd.N_below (Kd.N_elderB (by (with_reducible repeat (first | apply Kd.N_alloc | apply Kd.N_drewN | apply Kd.N_drew)); exact HO_6.out) gb139 (Nat.le_of_eq hg.symm)) hb); have n2_ := Aside0.mk (blk_below (g := gb137) (o := .cells #[.int .i64 ((rd_T41 l0 x51_3).f0), .slice A136_1 ((rd_T41 l0 x51_3).f1.f0).length c136_1, .slice A136_2 ((rd_T41 l0 x51_3).f1.f1).length c136_2, .int .u32 ((rd_T41 l0 x51_3).f2.f0), .int .u32 ((rd_T41 l0 x51_3).f2.f1), .bool ((rd_T41 l0 x51_3).f2.f2), .int .u8 ((rd_T41 l0 x51_3).f3.f0), .bool ((rd_T41 l0 x51_3).f3.f1)] 41 (0, 0)) (by (with_reducible repeat (first | refine blk_drewN ?_ _ | refine blk_drew ?_ | refine blk_alloc ?_ _)); exact BK137.out) hb); have n3_ := Aside0.mk (below_step (by repeat (first | (with_reducible first | exact HB.out | apply below_alloc | apply pw_below_drewN | apply below_drew1 | refine below_set ?_ GE137.out) | exact HB.out)) hb); have n4_ := Aside0.mk (hbox); have n5_ := Aside0.mk ((by rw [hg]; exact (below_size (by repeat (first | (with_reducible first | exact HB.out | apply below_alloc | apply pw_below_drewN | apply below_drew1 | refine below_set ?_ GE137.out) | exact HB.out))) : w.heap.size ≤ gb139)); have n6_ := Aside0.mk ((by rw [hg]; exact (below_size (by repeat (first | (with_reducible first | exact HB.out | apply below_alloc | apply pw_below_drewN | apply below_drew1 | refine below_set ?_ GE137.out) | exact HB.out))) : w.heap.size ≤ gb139)); have n7_ := Aside0.mk ((by rw [hg]; exact Nat.ne_of_lt (blk_lt (g := gb137) (o := .cells #[.int .i64 ((rd_T41 l0 x51_3).f0), .slice A136_1 ((rd_T41 l0 x51_3).f1.f0).length c136_1, .slice A136_2 ((rd_T41 l0 x51_3).f1.f1).length c136_2, .int .u32 ((rd_T41 l0 x51_3).f2.f0), .int .u32 ((rd_T41 l0 x51_3).f2.f1), .bool ((rd_T41 l0 x51_3).f2.f2), .int .u8 ((rd_T41 l0 x51_3).f3.f0), .bool ((rd_T41 l0 x51_3).f3.f1)] 41 (0, 0)) (by (with_reducible repeat (first | refine blk_drewN ?_ _ | refine blk_drew ?_ | refine blk_alloc ?_ _)); exact BK137.out)) : gb137 ≠ gb139)); have n8_ := Aside0.mk ((by rw [hg]; exact Nat.ne_of_gt (blk_lt (g := gb137) (o := .cells #[.int .i64 ((rd_T41 l0 x51_3).f0), .slice A136_1 ((rd_T41 l0 x51_3).f1.f0).length c136_1, .slice A136_2 ((rd_T41 l0 x51_3).f1.f1).length c136_2, .int .u32 ((rd_T41 l0 x51_3).f2.f0), .int .u32 ((rd_T41 l0 x51_3).f2.f1), .bool ((rd_T41 l0 x51_3).f2.f2), .int .u8 ((rd_T41 l0 x51_3).f3.f0), .bool ((rd_T41 l0 x51_3).f3.f1)] 41 (0, 0)) (by (with_reducible repeat (first | refine blk_drewN ?_ _ | refine blk_drew ?_ | refine blk_alloc ?_ _)); exact BK137.out)) : gb139 ≠ gb137)); clear HO_5; clear HO_6; clear BK137; clear HB; have HO_5 := n0_; have HO_6 := n1_; have BK137 := n2_; have HB := n3_; have BK139 := n4_; have GW139 := n5_; have GE139 := n6_; have NB137_139 := n7_; have NB139_137 := n8_; clear n0_ n1_ n2_ n3_ n4_ n5_ n6_ n7_ n8_; clear hb hbox hg; have hnb42 := NB139_137.out; have hnc42 := NB137_139.out; have hcz43_0 : w41.cell? ⟨gb139, 0, none⟩ = some (.int .i64 0) := (blk_cell BK139.out 0).trans rfl; have hcz43_1 : w41.cell? ⟨gb139, 1, none⟩ = some (.slice none 0 0) := (blk_cell BK139.out 1).trans rfl; have hcz43_2 : w41.cell? ⟨gb139, 2, none⟩ = some (.slice none 0 0) := (blk_cell BK139.out 2).trans rfl; have hcz43_3 : w41.cell? ⟨gb139, 3, none⟩ = some (.int .u32 0) := (blk_cell BK139.out 3).trans rfl; have hcz43_4 : w41.cell? ⟨gb139, 4, none⟩ = some (.int .u32 0) := (blk_cell BK139.out 4).trans rfl; have hcz43_5 : w41.cell? ⟨gb139, 5, none⟩ = some (.bool false) := (blk_cell BK139.out 5).trans rfl; have hcz43_6 : w41.cell? ⟨gb139, 6, none⟩ = some (.int .u8 0) := (blk_cell BK139.out 6).trans rfl; have hcz43_7 : w41.cell? ⟨gb139, 7, none⟩ = some (.bool false) := (blk_cell BK139.out 7).trans rfl; have hfz43_0 := blk_frozen BK139.out 0; have hfz43_1 := blk_frozen BK139.out 1; have hfz43_2 := blk_frozen BK139.out 2; have hfz43_3 := blk_frozen BK139.out 3; have hfz43_4 := blk_frozen BK139.out 4; have hfz43_5 := blk_frozen BK139.out 5; have hfz43_6 := blk_frozen BK139.out 6; have hfz43_7 := blk_frozen BK139.out 7))
                                            have n0_ : Aside0 (Kd.N k46 46 ((((((((w41.setCell ⟨gb139, 0, none⟩ (.int .i64 ((rd_T41 l1 x58_4).f0))).setCell ⟨gb139, 1, none⟩ (.slice A138_1 ((rd_T41 l1 x58_4).f1.f0).length c138_1)).setCell ⟨gb139, 2, none⟩ (.slice A138_2 ((rd_T41 l1 x58_4).f1.f1).length c138_2)).setCell ⟨gb139, 3, none⟩ (.int .u32 ((rd_T41 l1 x58_4).f2.f0))).setCell ⟨gb139, 4, none⟩ (.int .u32 ((rd_T41 l1 x58_4).f2.f1))).setCell ⟨gb139, 5, none⟩ (.bool ((rd_T41 l1 x58_4).f2.f2))).setCell ⟨gb139, 6, none⟩ (.int .u8 ((rd_T41 l1 x58_4).f3.f0))).setCell ⟨gb139, 7, none⟩ (.bool ((rd_T41 l1 x58_4).f3.f1))) w.heap.size (fun k_ => some k_ ≠ (.slice Ao23 t129.length co23 : Value).ownBlock ∧ k_ ≠ gb137 ∧ k_ ≠ gb139) (.slice Ao22 t126.length co22) t126) := ⟨by (with_reducible repeat (first | apply Kd.N_alloc | apply Kd.N_drewN | apply Kd.N_drew)); exact Kd.N_mono (Kd.N_far (p := ⟨gb139, 7, none⟩) (Kd.N_far (p := ⟨gb139, 6, none⟩) (Kd.N_far (p := ⟨gb139, 5, none⟩) (Kd.N_far (p := ⟨gb139, 4, none⟩) (Kd.N_far (p := ⟨gb139, 3, none⟩) (Kd.N_far (p := ⟨gb139, 2, none⟩) (Kd.N_far (p := ⟨gb139, 1, none⟩) (Kd.N_far (p := ⟨gb139, 0, none⟩) (Kd.N_mono HO_5.out (fun k_ hk => (⟨hk, hk.2⟩ : _ ∧ k_ ≠ gb139))) (fun _ hk => hk.2) (.int .i64 ((rd_T41 l1 x58_4).f0))) (fun _ hk => hk.2) (.slice A138_1 ((rd_T41 l1 x58_4).f1.f0).length c138_1)) (fun _ hk => hk.2) (.slice A138_2 ((rd_T41 l1 x58_4).f1.f1).length c138_2)) (fun _ hk => hk.2) (.int .u32 ((rd_T41 l1 x58_4).f2.f0))) (fun _ hk => hk.2) (.int .u32 ((rd_T41 l1 x58_4).f2.f1))) (fun _ hk => hk.2) (.bool ((rd_T41 l1 x58_4).f2.f2))) (fun _ hk => hk.2) (.int .u8 ((rd_T41 l1 x58_4).f3.f0))) (fun _ hk => hk.2) (.bool ((rd_T41 l1 x58_4).f3.f1))) (fun _ hk => ⟨hk.1.1.1, ⟨hk.1.1.2, hk.1.2⟩⟩)⟩
                                            have n1_ : Aside0 (Kd.N k46 46 ((((((((w41.setCell ⟨gb139, 0, none⟩ (.int .i64 ((rd_T41 l1 x58_4).f0))).setCell ⟨gb139, 1, none⟩ (.slice A138_1 ((rd_T41 l1 x58_4).f1.f0).length c138_1)).setCell ⟨gb139, 2, none⟩ (.slice A138_2 ((rd_T41 l1 x58_4).f1.f1).length c138_2)).setCell ⟨gb139, 3, none⟩ (.int .u32 ((rd_T41 l1 x58_4).f2.f0))).setCell ⟨gb139, 4, none⟩ (.int .u32 ((rd_T41 l1 x58_4).f2.f1))).setCell ⟨gb139, 5, none⟩ (.bool ((rd_T41 l1 x58_4).f2.f2))).setCell ⟨gb139, 6, none⟩ (.int .u8 ((rd_T41 l1 x58_4).f3.f0))).setCell ⟨gb139, 7, none⟩ (.bool ((rd_T41 l1 x58_4).f3.f1))) w.heap.size (fun k_ => some k_ ≠ (.slice Ao22 t126.length co22 : Value).ownBlock ∧ k_ ≠ gb137 ∧ k_ ≠ gb139) (.slice Ao23 t129.length co23) t129) := ⟨by (with_reducible repeat (first | apply Kd.N_alloc | apply Kd.N_drewN | apply Kd.N_drew)); exact Kd.N_mono (Kd.N_far (p := ⟨gb139, 7, none⟩) (Kd.N_far (p := ⟨gb139, 6, none⟩) (Kd.N_far (p := ⟨gb139, 5, none⟩) (Kd.N_far (p := ⟨gb139, 4, none⟩) (Kd.N_far (p := ⟨gb139, 3, none⟩) (Kd.N_far (p := ⟨gb139, 2, none⟩) (Kd.N_far (p := ⟨gb139, 1, none⟩) (Kd.N_far (p := ⟨gb139, 0, none⟩) (Kd.N_mono HO_6.out (fun k_ hk => (⟨hk, hk.2⟩ : _ ∧ k_ ≠ gb139))) (fun _ hk => hk.2) (.int .i64 ((rd_T41 l1 x58_4).f0))) (fun _ hk => hk.2) (.slice A138_1 ((rd_T41 l1 x58_4).f1.f0).length c138_1)) (fun _ hk => hk.2) (.slice A138_2 ((rd_T41 l1 x58_4).f1.f1).length c138_2)) (fun _ hk => hk.2) (.int .u32 ((rd_T41 l1 x58_4).f2.f0))) (fun _ hk => hk.2) (.int .u32 ((rd_T41 l1 x58_4).f2.f1))) (fun _ hk => hk.2) (.bool ((rd_T41 l1 x58_4).f2.f2))) (fun _ hk => hk.2) (.int .u8 ((rd_T41 l1 x58_4).f3.f0))) (fun _ hk => hk.2) (.bool ((rd_T41 l1 x58_4).f3.f1))) (fun _ hk => ⟨hk.1.1.1, ⟨hk.1.1.2, hk.1.2⟩⟩)⟩
                                            have n2_ : Aside0 (((((((((w41.setCell ⟨gb139, 0, none⟩ (.int .i64 ((rd_T41 l1 x58_4).f0))).setCell ⟨gb139, 1, none⟩ (.slice A138_1 ((rd_T41 l1 x58_4).f1.f0).length c138_1)).setCell ⟨gb139, 2, none⟩ (.slice A138_2 ((rd_T41 l1 x58_4).f1.f1).length c138_2)).setCell ⟨gb139, 3, none⟩ (.int .u32 ((rd_T41 l1 x58_4).f2.f0))).setCell ⟨gb139, 4, none⟩ (.int .u32 ((rd_T41 l1 x58_4).f2.f1))).setCell ⟨gb139, 5, none⟩ (.bool ((rd_T41 l1 x58_4).f2.f2))).setCell ⟨gb139, 6, none⟩ (.int .u8 ((rd_T41 l1 x58_4).f3.f0))).setCell ⟨gb139, 7, none⟩ (.bool ((rd_T41 l1 x58_4).f3.f1))).heap[gb137]? = some (.cells #[.int .i64 ((rd_T41 l0 x51_3).f0), .slice A136_1 ((rd_T41 l0 x51_3).f1.f0).length c136_1, .slice A136_2 ((rd_T41 l0 x51_3).f1.f1).length c136_2, .int .u32 ((rd_T41 l0 x51_3).f2.f0), .int .u32 ((rd_T41 l0 x51_3).f2.f1), .bool ((rd_T41 l0 x51_3).f2.f2), .int .u8 ((rd_T41 l0 x51_3).f3.f0), .bool ((rd_T41 l0 x51_3).f3.f1)] 41 (0, 0))) := ⟨by (with_reducible repeat (first | refine blk_drewN ?_ _ | refine blk_drew ?_ | refine blk_alloc ?_ _)); refine blk_far ?_ NB137_139.out _; (with_reducible repeat (first | refine blk_drewN ?_ _ | refine blk_drew ?_ | refine blk_alloc ?_ _)); refine blk_far ?_ NB137_139.out _; (with_reducible repeat (first | refine blk_drewN ?_ _ | refine blk_drew ?_ | refine blk_alloc ?_ _)); refine blk_far ?_ NB137_139.out _; (with_reducible repeat (first | refine blk_drewN ?_ _ | refine blk_drew ?_ | refine blk_alloc ?_ _)); refine blk_far ?_ NB137_139.out _; (with_reducible repeat (first | refine blk_drewN ?_ _ | refine blk_drew ?_ | refine blk_alloc ?_ _)); refine blk_far ?_ NB137_139.out _; (with_reducible repeat (first | refine blk_drewN ?_ _ | refine blk_drew ?_ | refine blk_alloc ?_ _)); refine blk_far ?_ NB137_139.out _; (with_reducible repeat (first | refine blk_drewN ?_ _ | refine blk_drew ?_ | refine blk_alloc ?_ _)); refine blk_far ?_ NB137_139.out _; (with_reducible repeat (first | refine blk_drewN ?_ _ | refine blk_drew ?_ | refine blk_alloc ?_ _)); refine blk_far ?_ NB137_139.out _; (with_reducible repeat (first | refine blk_drewN ?_ _ | refine blk_drew ?_ | refine blk_alloc ?_ _)); exact BK137.out⟩
                                            have n3_ : Aside0 (((((((((w41.setCell ⟨gb139, 0, none⟩ (.int .i64 ((rd_T41 l1 x58_4).f0))).setCell ⟨gb139, 1, none⟩ (.slice A138_1 ((rd_T41 l1 x58_4).f1.f0).length c138_1)).setCell ⟨gb139, 2, none⟩ (.slice A138_2 ((rd_T41 l1 x58_4).f1.f1).length c138_2)).setCell ⟨gb139, 3, none⟩ (.int .u32 ((rd_T41 l1 x58_4).f2.f0))).setCell ⟨gb139, 4, none⟩ (.int .u32 ((rd_T41 l1 x58_4).f2.f1))).setCell ⟨gb139, 5, none⟩ (.bool ((rd_T41 l1 x58_4).f2.f2))).setCell ⟨gb139, 6, none⟩ (.int .u8 ((rd_T41 l1 x58_4).f3.f0))).setCell ⟨gb139, 7, none⟩ (.bool ((rd_T41 l1 x58_4).f3.f1))).heap[gb139]? = some (.cells #[.int .i64 ((rd_T41 l1 x58_4).f0), .slice A138_1 ((rd_T41 l1 x58_4).f1.f0).length c138_1, .slice A138_2 ((rd_T41 l1 x58_4).f1.f1).length c138_2, .int .u32 ((rd_T41 l1 x58_4).f2.f0), .int .u32 ((rd_T41 l1 x58_4).f2.f1), .bool ((rd_T41 l1 x58_4).f2.f2), .int .u8 ((rd_T41 l1 x58_4).f3.f0), .bool ((rd_T41 l1 x58_4).f3.f1)] 41 (0, 0))) := ⟨by (with_reducible repeat (first | refine blk_drewN ?_ _ | refine blk_drew ?_ | refine blk_alloc ?_ _)); refine blk_put (cs := #[.int .i64 ((rd_T41 l1 x58_4).f0), .slice A138_1 ((rd_T41 l1 x58_4).f1.f0).length c138_1, .slice A138_2 ((rd_T41 l1 x58_4).f1.f1).length c138_2, .int .u32 ((rd_T41 l1 x58_4).f2.f0), .int .u32 ((rd_T41 l1 x58_4).f2.f1), .bool ((rd_T41 l1 x58_4).f2.f2), .int .u8 ((rd_T41 l1 x58_4).f3.f0), .bool false]) ?_ 7 _ rfl; (with_reducible repeat (first | refine blk_drewN ?_ _ | refine blk_drew ?_ | refine blk_alloc ?_ _)); refine blk_put (cs := #[.int .i64 ((rd_T41 l1 x58_4).f0), .slice A138_1 ((rd_T41 l1 x58_4).f1.f0).length c138_1, .slice A138_2 ((rd_T41 l1 x58_4).f1.f1).length c138_2, .int .u32 ((rd_T41 l1 x58_4).f2.f0), .int .u32 ((rd_T41 l1 x58_4).f2.f1), .bool ((rd_T41 l1 x58_4).f2.f2), .int .u8 0, .bool false]) ?_ 6 _ rfl; (with_reducible repeat (first | refine blk_drewN ?_ _ | refine blk_drew ?_ | refine blk_alloc ?_ _)); refine blk_put (cs := #[.int .i64 ((rd_T41 l1 x58_4).f0), .slice A138_1 ((rd_T41 l1 x58_4).f1.f0).length c138_1, .slice A138_2 ((rd_T41 l1 x58_4).f1.f1).length c138_2, .int .u32 ((rd_T41 l1 x58_4).f2.f0), .int .u32 ((rd_T41 l1 x58_4).f2.f1), .bool false, .int .u8 0, .bool false]) ?_ 5 _ rfl; (with_reducible repeat (first | refine blk_drewN ?_ _ | refine blk_drew ?_ | refine blk_alloc ?_ _)); refine blk_put (cs := #[.int .i64 ((rd_T41 l1 x58_4).f0), .slice A138_1 ((rd_T41 l1 x58_4).f1.f0).length c138_1, .slice A138_2 ((rd_T41 l1 x58_4).f1.f1).length c138_2, .int .u32 ((rd_T41 l1 x58_4).f2.f0), .int .u32 0, .bool false, .int .u8 0, .bool false]) ?_ 4 _ rfl; (with_reducible repeat (first | refine blk_drewN ?_ _ | refine blk_drew ?_ | refine blk_alloc ?_ _)); refine blk_put (cs := #[.int .i64 ((rd_T41 l1 x58_4).f0), .slice A138_1 ((rd_T41 l1 x58_4).f1.f0).length c138_1, .slice A138_2 ((rd_T41 l1 x58_4).f1.f1).length c138_2, .int .u32 0, .int .u32 0, .bool false, .int .u8 0, .bool false]) ?_ 3 _ rfl; (with_reducible repeat (first | refine blk_drewN ?_ _ | refine blk_drew ?_ | refine blk_alloc ?_ _)); refine blk_put (cs := #[.int .i64 ((rd_T41 l1 x58_4).f0), .slice A138_1 ((rd_T41 l1 x58_4).f1.f0).length c138_1, .slice none 0 0, .int .u32 0, .int .u32 0, .bool false, .int .u8 0, .bool false]) ?_ 2 _ rfl; (with_reducible repeat (first | refine blk_drewN ?_ _ | refine blk_drew ?_ | refine blk_alloc ?_ _)); refine blk_put (cs := #[.int .i64 ((rd_T41 l1 x58_4).f0), .slice none 0 0, .slice none 0 0, .int .u32 0, .int .u32 0, .bool false, .int .u8 0, .bool false]) ?_ 1 _ rfl; (with_reducible repeat (first | refine blk_drewN ?_ _ | refine blk_drew ?_ | refine blk_alloc ?_ _)); refine blk_put (cs := #[.int .i64 0, .slice none 0 0, .slice none 0 0, .int .u32 0, .int .u32 0, .bool false, .int .u8 0, .bool false]) ?_ 0 _ rfl; (with_reducible repeat (first | refine blk_drewN ?_ _ | refine blk_drew ?_ | refine blk_alloc ?_ _)); exact BK139.out⟩
                                            have n4_ : Aside0 (Below w.heap.size w ((((((((w41.setCell ⟨gb139, 0, none⟩ (.int .i64 ((rd_T41 l1 x58_4).f0))).setCell ⟨gb139, 1, none⟩ (.slice A138_1 ((rd_T41 l1 x58_4).f1.f0).length c138_1)).setCell ⟨gb139, 2, none⟩ (.slice A138_2 ((rd_T41 l1 x58_4).f1.f1).length c138_2)).setCell ⟨gb139, 3, none⟩ (.int .u32 ((rd_T41 l1 x58_4).f2.f0))).setCell ⟨gb139, 4, none⟩ (.int .u32 ((rd_T41 l1 x58_4).f2.f1))).setCell ⟨gb139, 5, none⟩ (.bool ((rd_T41 l1 x58_4).f2.f2))).setCell ⟨gb139, 6, none⟩ (.int .u8 ((rd_T41 l1 x58_4).f3.f0))).setCell ⟨gb139, 7, none⟩ (.bool ((rd_T41 l1 x58_4).f3.f1)))) := ⟨by repeat (first | (with_reducible first | exact HB.out | apply below_alloc | apply pw_below_drewN | apply below_drew1 | refine below_set ?_ GE137.out | refine below_set ?_ GE139.out) | exact HB.out)⟩
                                            (try clear HO_5)
                                            (try clear HO_6)
                                            (try clear BK137)
                                            (try clear BK139)
                                            (try clear HB)
                                            generalize ((((((((w41.setCell ⟨gb139, 0, none⟩ (.int .i64 ((rd_T41 l1 x58_4).f0))).setCell ⟨gb139, 1, none⟩ (.slice A138_1 ((rd_T41 l1 x58_4).f1.f0).length c138_1)).setCell ⟨gb139, 2, none⟩ (.slice A138_2 ((rd_T41 l1 x58_4).f1.f1).length c138_2)).setCell ⟨gb139, 3, none⟩ (.int .u32 ((rd_T41 l1 x58_4).f2.f0))).setCell ⟨gb139, 4, none⟩ (.int .u32 ((rd_T41 l1 x58_4).f2.f1))).setCell ⟨gb139, 5, none⟩ (.bool ((rd_T41 l1 x58_4).f2.f2))).setCell ⟨gb139, 6, none⟩ (.int .u8 ((rd_T41 l1 x58_4).f3.f0))).setCell ⟨gb139, 7, none⟩ (.bool ((rd_T41 l1 x58_4).f3.f1))) = w44 at n0_ n1_ n2_ n3_ n4_ ⊢
                                            have HO_5 := n0_
                                            have HO_6 := n1_
                                            have BK137 := n2_
                                            have BK139 := n3_
                                            have HB := n4_
                                            clear n0_ n1_ n2_ n3_ n4_
                                            have n0_ := Aside0.mk (Kd.N_drew HO_5.out)
                                            have n1_ := Aside0.mk (Kd.N_drew HO_6.out)
                                            have n2_ := Aside0.mk (blk_drew BK137.out)
                                            have n3_ := Aside0.mk (blk_drew BK139.out)
                                            have n4_ := Aside0.mk (below_drew1 HB.out)
                                            clear HO_5
                                            clear HO_6
                                            clear BK137
                                            clear BK139
                                            clear HB
                                            have HO_5 := n0_
                                            have HO_6 := n1_
                                            have BK137 := n2_
                                            have BK139 := n3_
                                            have HB := n4_
                                            clear n0_ n1_ n2_ n3_ n4_
                                            have p141 : 0 ≤ (x51_3 : Int) := of_decide_eq_true (by first | (with_reducible assumption) | assumption)
                                            have q141 : x51_3 < (t126.length : Int) := of_decide_eq_true (by first | (with_reducible assumption) | assumption)
                                            obtain ⟨ad141, A141_1, c141_1, A141_2, c141_2, e141, hx141_0, hx141_1, hx141_2, hx141_3, hx141_4, hx141_5, hx141_6, hx141_7, hl141_1, hi141_1, hl141_2, hi141_2⟩ := at_T46 (Kd.N_reads' HO_5.out).2.2 x51_3 p141 q141
                                            cases e141
                                            obtain ⟨ce141, hce141, hMe141, hcc141⟩ := Kd.N_get HO_5.out z46 x51_3 p141 (by first | exact q141 | exact of_decide_eq_true (by first | (with_reducible assumption) | assumption) | (have e_ := (Kd.N_reads' HO_5.out).1; omega))
                                            obtain ⟨ua141_1, uc141_1, ua141_2, uc141_2, rfl, ul141_1, ge141_1, ul141_2, ge141_2⟩ := k46_openF hMe141
                                            have hv141_1 := hcc141 1 _ rfl
                                            rw [add_field _ _ 1 (by omega)] at hv141_1
                                            replace hv141_1 := Option.some.inj (hv141_1.symm.trans hx141_1)
                                            injection hv141_1 with hva_ hvn_ hvc_
                                            rw [hva_] at ge141_1
                                            rw [hvc_] at ul141_1
                                            have HL141_1 := Aside0.mk (show Kd.V (Kd.int .u8) 5 _ w.heap.size _ _ ((rd_T46 t126 x51_3).f1) from Kd.V_mk ul141_1 ge141_1)
                                            clear hva_ hvn_ hvc_ ge141_1 ul141_1
                                            have hv141_2 := hcc141 2 _ rfl
                                            rw [add_field _ _ 2 (by omega)] at hv141_2
                                            replace hv141_2 := Option.some.inj (hv141_2.symm.trans hx141_2)
                                            injection hv141_2 with hva_ hvn_ hvc_
                                            rw [hva_] at ge141_2
                                            rw [hvc_] at ul141_2
                                            have HL141_2 := Aside0.mk (show Kd.V (Kd.int .u8) 5 _ w.heap.size _ _ ((rd_T46 t126 x51_3).f2) from Kd.V_mk ul141_2 ge141_2)
                                            clear hva_ hvn_ hvc_ ge141_2 ul141_2
                                            clear hcc141 hce141
                                            have HR141_1 := Aside0.mk hi141_1
                                            have HC141_1 := Aside0.mk hl141_1
                                            clear hi141_1 hl141_1
                                            have HR141_2 := Aside0.mk hi141_2
                                            have HC141_2 := Aside0.mk hl141_2
                                            clear hi141_2 hl141_2
                                            replace p141 := eq_true p141
                                            replace q141 := eq_true q141
                                            have p142 : 0 ≤ (x58_4 : Int) := of_decide_eq_true (by first | (with_reducible assumption) | assumption)
                                            have q142 : x58_4 < (t129.length : Int) := of_decide_eq_true (by first | (with_reducible assumption) | assumption)
                                            obtain ⟨ad142, A142_1, c142_1, A142_2, c142_2, e142, hx142_0, hx142_1, hx142_2, hx142_3, hx142_4, hx142_5, hx142_6, hx142_7, hl142_1, hi142_1, hl142_2, hi142_2⟩ := at_T46 (Kd.N_reads' HO_6.out).2.2 x58_4 p142 q142
                                            cases e142
                                            obtain ⟨ce142, hce142, hMe142, hcc142⟩ := Kd.N_get HO_6.out z46 x58_4 p142 (by first | exact q142 | exact of_decide_eq_true (by first | (with_reducible assumption) | assumption) | (have e_ := (Kd.N_reads' HO_6.out).1; omega))
                                            obtain ⟨ua142_1, uc142_1, ua142_2, uc142_2, rfl, ul142_1, ge142_1, ul142_2, ge142_2⟩ := k46_openF hMe142
                                            have hv142_1 := hcc142 1 _ rfl
                                            rw [add_field _ _ 1 (by omega)] at hv142_1
                                            replace hv142_1 := Option.some.inj (hv142_1.symm.trans hx142_1)
                                            injection hv142_1 with hva_ hvn_ hvc_
                                            rw [hva_] at ge142_1
                                            rw [hvc_] at ul142_1
                                            have HL142_1 := Aside0.mk (show Kd.V (Kd.int .u8) 5 _ w.heap.size _ _ ((rd_T46 t129 x58_4).f1) from Kd.V_mk ul142_1 ge142_1)
                                            clear hva_ hvn_ hvc_ ge142_1 ul142_1
                                            have hv142_2 := hcc142 2 _ rfl
                                            rw [add_field _ _ 2 (by omega)] at hv142_2
                                            replace hv142_2 := Option.some.inj (hv142_2.symm.trans hx142_2)
                                            injection hv142_2 with hva_ hvn_ hvc_
                                            rw [hva_] at ge142_2
                                            rw [hvc_] at ul142_2
                                            have HL142_2 := Aside0.mk (show Kd.V (Kd.int .u8) 5 _ w.heap.size _ _ ((rd_T46 t129 x58_4).f2) from Kd.V_mk ul142_2 ge142_2)
                                            clear hva_ hvn_ hvc_ ge142_2 ul142_2
                                            clear hcc142 hce142
                                            have HR142_1 := Aside0.mk hi142_1
                                            have HC142_1 := Aside0.mk hl142_1
                                            clear hi142_1 hl142_1
                                            have HR142_2 := Aside0.mk hi142_2
                                            have HC142_2 := Aside0.mk hl142_2
                                            clear hi142_2 hl142_2
                                            replace p142 := eq_true p142
                                            replace q142 := eq_true q142
                                            refine start_ (n := 13) (S := fun w' => w'.cell? ⟨gb137, 0, none⟩ = some (.int .i64 ((rd_T41 l0 x51_3).f0)) ∧ w'.cell? ⟨gb137, 1, none⟩ = some (.slice A136_1 ((rd_T41 l0 x51_3).f1.f0).length c136_1) ∧ w'.cell? ⟨gb137, 2, none⟩ = some (.slice A136_2 ((rd_T41 l0 x51_3).f1.f1).length c136_2) ∧ w'.cell? ⟨gb137, 3, none⟩ = some (.int .u32 ((rd_T41 l0 x51_3).f2.f0)) ∧ w'.cell? ⟨gb137, 4, none⟩ = some (.int .u32 ((rd_T41 l0 x51_3).f2.f1)) ∧ w'.cell? ⟨gb137, 5, none⟩ = some (.bool ((rd_T41 l0 x51_3).f2.f2)) ∧ w'.cell? ⟨gb137, 6, none⟩ = some (.int .u8 ((rd_T41 l0 x51_3).f3.f0)) ∧ w'.cell? ⟨gb137, 7, none⟩ = some (.bool ((rd_T41 l0 x51_3).f3.f1)) ∧ w'.cell? ⟨gb139, 0, none⟩ = some (.int .i64 ((rd_T41 l1 x58_4).f0)) ∧ w'.cell? ⟨gb139, 1, none⟩ = some (.slice A138_1 ((rd_T41 l1 x58_4).f1.f0).length c138_1) ∧ w'.cell? ⟨gb139, 2, none⟩ = some (.slice A138_2 ((rd_T41 l1 x58_4).f1.f1).length c138_2) ∧ w'.cell? ⟨gb139, 3, none⟩ = some (.int .u32 ((rd_T41 l1 x58_4).f2.f0)) ∧ w'.cell? ⟨gb139, 4, none⟩ = some (.int .u32 ((rd_T41 l1 x58_4).f2.f1)) ∧ w'.cell? ⟨gb139, 5, none⟩ = some (.bool ((rd_T41 l1 x58_4).f2.f2)) ∧ w'.cell? ⟨gb139, 6, none⟩ = some (.int .u8 ((rd_T41 l1 x58_4).f3.f0)) ∧ w'.cell? ⟨gb139, 7, none⟩ = some (.bool ((rd_T41 l1 x58_4).f3.f1)) ∧ w'.cell? (ad141.add ((x51_3).toNat * 8)) = some (.int .i64 ((rd_T46 t126 x51_3).f0)) ∧ w'.cell? ⟨(ad141.add ((x51_3).toNat * 8)).block, (ad141.add ((x51_3).toNat * 8)).off + 1, none⟩ = some (.slice A141_1 ((rd_T46 t126 x51_3).f1).length c141_1) ∧ w'.cell? ⟨(ad141.add ((x51_3).toNat * 8)).block, (ad141.add ((x51_3).toNat * 8)).off + 2, none⟩ = some (.slice A141_2 ((rd_T46 t126 x51_3).f2).length c141_2) ∧ w'.cell? ⟨(ad141.add ((x51_3).toNat * 8)).block, (ad141.add ((x51_3).toNat * 8)).off + 3, none⟩ = some (.int .u32 ((rd_T46 t126 x51_3).f3.f0)) ∧ w'.cell? ⟨(ad141.add ((x51_3).toNat * 8)).block, (ad141.add ((x51_3).toNat * 8)).off + 4, none⟩ = some (.int .u32 ((rd_T46 t126 x51_3).f3.f1)) ∧ w'.cell? ⟨(ad141.add ((x51_3).toNat * 8)).block, (ad141.add ((x51_3).toNat * 8)).off + 5, none⟩ = some (.bool ((rd_T46 t126 x51_3).f3.f2)) ∧ w'.cell? ⟨(ad141.add ((x51_3).toNat * 8)).block, (ad141.add ((x51_3).toNat * 8)).off + 6, none⟩ = some (.int .u8 ((rd_T46 t126 x51_3).f4)) ∧ w'.cell? ⟨(ad141.add ((x51_3).toNat * 8)).block, (ad141.add ((x51_3).toNat * 8)).off + 7, none⟩ = some (.bool ((rd_T46 t126 x51_3).f5)) ∧ w'.cell? (ad142.add ((x58_4).toNat * 8)) = some (.int .i64 ((rd_T46 t129 x58_4).f0)) ∧ w'.cell? ⟨(ad142.add ((x58_4).toNat * 8)).block, (ad142.add ((x58_4).toNat * 8)).off + 1, none⟩ = some (.slice A142_1 ((rd_T46 t129 x58_4).f1).length c142_1) ∧ w'.cell? ⟨(ad142.add ((x58_4).toNat * 8)).block, (ad142.add ((x58_4).toNat * 8)).off + 2, none⟩ = some (.slice A142_2 ((rd_T46 t129 x58_4).f2).length c142_2) ∧ w'.cell? ⟨(ad142.add ((x58_4).toNat * 8)).block, (ad142.add ((x58_4).toNat * 8)).off + 3, none⟩ = some (.int .u32 ((rd_T46 t129 x58_4).f3.f0)) ∧ w'.cell? ⟨(ad142.add ((x58_4).toNat * 8)).block, (ad142.add ((x58_4).toNat * 8)).off + 4, none⟩ = some (.int .u32 ((rd_T46 t129 x58_4).f3.f1)) ∧ w'.cell? ⟨(ad142.add ((x58_4).toNat * 8)).block, (ad142.add ((x58_4).toNat * 8)).off + 5, none⟩ = some (.bool ((rd_T46 t129 x58_4).f3.f2)) ∧ w'.cell? ⟨(ad142.add ((x58_4).toNat * 8)).block, (ad142.add ((x58_4).toNat * 8)).off + 6, none⟩ = some (.int .u8 ((rd_T46 t129 x58_4).f4)) ∧ w'.cell? ⟨(ad142.add ((x58_4).toNat * 8)).block, (ad142.add ((x58_4).toNat * 8)).off + 7, none⟩ = some (.bool ((rd_T46 t129 x58_4).f5))) (ds := []) #[false, false, false, false, false, false, false, false, false, false, false, false, false] (by kernel_rfl) rfl rfl ⟨(blk_cell BK137.out 0).trans rfl, (blk_cell BK137.out 1).trans rfl, (blk_cell BK137.out 2).trans rfl, (blk_cell BK137.out 3).trans rfl, (blk_cell BK137.out 4).trans rfl, (blk_cell BK137.out 5).trans rfl, (blk_cell BK137.out 6).trans rfl, (blk_cell BK137.out 7).trans rfl, (blk_cell BK139.out 0).trans rfl, (blk_cell BK139.out 1).trans rfl, (blk_cell BK139.out 2).trans rfl, (blk_cell BK139.out 3).trans rfl, (blk_cell BK139.out 4).trans rfl, (blk_cell BK139.out 5).trans rfl, (blk_cell BK139.out 6).trans rfl, (blk_cell BK139.out 7).trans rfl, hx141_0, hx141_1, hx141_2, hx141_3, hx141_4, hx141_5, hx141_6, hx141_7, hx142_0, hx142_1, hx142_2, hx142_3, hx142_4, hx142_5, hx142_6, hx142_7⟩ (fun hHeld => ?_); refine with_tabW trunnionlaw29_LinkMatches.tab16 trunnionlaw29_LinkMatches.bits16 (fun HT_ HW_ => ?_)
                                            generalize w44.drew = w45 at HO_5 HO_6 BK137 BK139 HB HL141_1 HL141_2 HL142_1 HL142_2 HR141_1 HR141_2 HR142_1 HR142_2 hx141_0 hx141_1 hx141_2 hx141_3 hx141_4 hx141_5 hx141_6 hx141_7 hx142_0 hx142_1 hx142_2 hx142_3 hx142_4 hx142_5 hx142_6 hx142_7 hHeld ⊢
                                            refine pure_ (i := 3) (N := some 66) (v := ?_) (a' := ?_) #[false, false, false, true, false, false, false, false, false, false, false, false, false] rfl rfl (any_of HT_.out (by kernel_rfl)) (fun _ _ _ h => h) (Or.inl ⟨by rfl, ?_⟩) ?_ ?_
                                            rotate_left
                                            · intro w'
                                              go_simp
                                              with_reducible rfl
                                            rotate_left
                                            · simp only [Act.put, List.setIfInBounds_toArray, List.set_cons_zero, List.set_cons_succ, i64_w, i32_w]
                                              rfl
                                            refine pure_ (i := 4) (N := some 67) (v := ?_) (a' := ?_) #[false, false, false, true, true, false, false, false, false, false, false, false, false] rfl rfl (any_of HT_.out (by kernel_rfl)) (fun _ _ _ h => h) (Or.inl ⟨by rfl, ?_⟩) ?_ ?_
                                            rotate_left
                                            · intro w'
                                              go_simp
                                              with_reducible rfl
                                            rotate_left
                                            · simp only [Act.put, List.setIfInBounds_toArray, List.set_cons_zero, List.set_cons_succ, i64_w, i32_w]
                                              rfl
                                            refine pure_ (i := 5) (N := some 68) (v := ?_) (a' := ?_) #[false, false, false, true, true, true, false, false, false, false, false, false, false] rfl rfl (any_of HT_.out (by kernel_rfl)) (fun _ _ _ h => h) (Or.inl ⟨by rfl, ?_⟩) ?_ ?_
                                            rotate_left
                                            · intro w'
                                              go_simp
                                              with_reducible rfl
                                            rotate_left
                                            · simp only [Act.put, List.setIfInBounds_toArray, List.set_cons_zero, List.set_cons_succ, i64_w, i32_w]
                                              rfl
                                            refine pure_ (i := 7) (N := some 70) (v := ?_) (a' := ?_) #[false, false, false, true, true, true, false, true, false, false, false, false, false] rfl rfl (any_of HT_.out (by kernel_rfl)) (fun _ _ _ h => h) (Or.inl ⟨by rfl, ?_⟩) ?_ ?_
                                            rotate_left
                                            · intro w'
                                              go_simp
                                              with_reducible rfl
                                            rotate_left
                                            · simp only [Act.put, List.setIfInBounds_toArray, List.set_cons_zero, List.set_cons_succ, i64_w, i32_w]
                                              rfl
                                            refine pure_ (i := 8) (N := some 71) (v := ?_) (a' := ?_) #[false, false, false, true, true, true, false, true, true, false, false, false, false] rfl rfl (any_of HT_.out (by kernel_rfl)) (fun _ _ _ h => h) (Or.inl ⟨by rfl, ?_⟩) ?_ ?_
                                            rotate_left
                                            · intro w'
                                              go_simp
                                              with_reducible rfl
                                            rotate_left
                                            · simp only [Act.put, List.setIfInBounds_toArray, List.set_cons_zero, List.set_cons_succ, i64_w, i32_w]
                                              rfl
                                            refine pure_ (i := 9) (N := some 72) (v := ?_) (a' := ?_) #[false, false, false, true, true, true, false, true, true, true, false, false, false] rfl rfl (any_of HT_.out (by kernel_rfl)) (fun _ _ _ h => h) (Or.inl ⟨by rfl, ?_⟩) ?_ ?_
                                            rotate_left
                                            · intro w'
                                              go_simp
                                              with_reducible rfl
                                            rotate_left
                                            · simp only [Act.put, List.setIfInBounds_toArray, List.set_cons_zero, List.set_cons_succ, i64_w, i32_w]
                                              rfl
                                            refine take_ (i := 0) (N := some 63) (v := ?_) (a' := ?_) #[true, false, false, true, true, true, false, true, true, true, false, false, false] rfl rfl (take_ofW HT_.out HW_.out (by kernel_rfl)) (fun _ _ _ h => h) (Or.inl ⟨by rfl, ?_⟩) hHeld ?_ ?_
                                            rotate_left
                                            · rintro w' ⟨s0, s1, s2, s3, s4, s5, s6, s7, s8, s9, s10, s11, s12, s13, s14, s15, s16, s17, s18, s19, s20, s21, s22, s23, s24, s25, s26, s27, s28, s29, s30, s31⟩
                                              go_simp
                                              with_reducible rfl
                                            rotate_left
                                            · simp only [Act.put, List.setIfInBounds_toArray, List.set_cons_zero, List.set_cons_succ, i64_w, i32_w]
                                              rfl
                                            refine take_ (i := 1) (N := some 64) (v := ?_) (a' := ?_) #[true, true, false, true, true, true, false, true, true, true, false, false, false] rfl rfl (take_ofW HT_.out HW_.out (by kernel_rfl)) (fun _ _ _ h => h) (Or.inl ⟨by rfl, ?_⟩) hHeld ?_ ?_
                                            rotate_left
                                            · rintro w' ⟨s0, s1, s2, s3, s4, s5, s6, s7, s8, s9, s10, s11, s12, s13, s14, s15, s16, s17, s18, s19, s20, s21, s22, s23, s24, s25, s26, s27, s28, s29, s30, s31⟩
                                              go_simp
                                              with_reducible rfl
                                            rotate_left
                                            · simp only [Act.put, List.setIfInBounds_toArray, List.set_cons_zero, List.set_cons_succ, i64_w, i32_w]
                                              rfl
                                            refine take_ (i := 6) (N := some 69) (v := ?_) (a' := ?_) #[true, true, false, true, true, true, true, true, true, true, false, false, false] rfl rfl (take_ofW HT_.out HW_.out (by kernel_rfl)) (fun _ _ _ h => h) (Or.inl ⟨by rfl, ?_⟩) hHeld ?_ ?_
                                            rotate_left
                                            · rintro w' ⟨s0, s1, s2, s3, s4, s5, s6, s7, s8, s9, s10, s11, s12, s13, s14, s15, s16, s17, s18, s19, s20, s21, s22, s23, s24, s25, s26, s27, s28, s29, s30, s31⟩
                                              go_simp
                                              with_reducible rfl
                                            rotate_left
                                            · simp only [Act.put, List.setIfInBounds_toArray, List.set_cons_zero, List.set_cons_succ, i64_w, i32_w]
                                              rfl
                                            refine take_ (i := 10) (N := some 73) (v := ?_) (a' := ?_) #[true, true, false, true, true, true, true, true, true, true, true, false, false] rfl rfl (take_ofW HT_.out HW_.out (by kernel_rfl)) (fun _ _ _ h => h) (Or.inl ⟨by rfl, ?_⟩) hHeld ?_ ?_
                                            rotate_left
                                            · rintro w' ⟨s0, s1, s2, s3, s4, s5, s6, s7, s8, s9, s10, s11, s12, s13, s14, s15, s16, s17, s18, s19, s20, s21, s22, s23, s24, s25, s26, s27, s28, s29, s30, s31⟩
                                              go_simp
                                              with_reducible rfl
                                            rotate_left
                                            · simp only [Act.put, List.setIfInBounds_toArray, List.set_cons_zero, List.set_cons_succ, i64_w, i32_w]
                                              rfl
                                            refine one_ (i := 2) (N := some 65) #[true, true, true, true, true, true, true, true, true, true, true, false, false] rfl rfl (one_of HT_.out (by kernel_rfl)) (by decide) (fun K hK => ?_)
                                            refine goes_ Try.func17 (by kernel_rfl) rfl #[.agg #[.int .i64 ((rd_T41 l0 x51_3).f0), .slice A136_1 ((rd_T41 l0 x51_3).f1.f0).length c136_1, .slice A136_2 ((rd_T41 l0 x51_3).f1.f1).length c136_2, .int .u32 ((rd_T41 l0 x51_3).f2.f0), .int .u32 ((rd_T41 l0 x51_3).f2.f1), .bool ((rd_T41 l0 x51_3).f2.f2), .int .u8 ((rd_T41 l0 x51_3).f3.f0), .bool ((rd_T41 l0 x51_3).f3.f1)], .agg #[.int .i64 ((rd_T41 l1 x58_4).f0), .slice A138_1 ((rd_T41 l1 x58_4).f1.f0).length c138_1, .slice A138_2 ((rd_T41 l1 x58_4).f1.f1).length c138_2, .int .u32 ((rd_T41 l1 x58_4).f2.f0), .int .u32 ((rd_T41 l1 x58_4).f2.f1), .bool ((rd_T41 l1 x58_4).f2.f2), .int .u8 ((rd_T41 l1 x58_4).f3.f0), .bool ((rd_T41 l1 x58_4).f3.f1)]] (by rfl) rfl rfl (by (try simp only [List.map_toArray, List.map_cons, List.map_nil]); first | done | rfl | (simp only [List.length_drop, List.length_take]; rfl)) ?_
                                            with_reducible refine (link_Match.calls ((rd_T41 l0 x51_3).f0) _ _ ((rd_T41 l0 x51_3).f1.f0) _ _ ((rd_T41 l0 x51_3).f1.f1) ((rd_T41 l0 x51_3).f2.f0) ((rd_T41 l0 x51_3).f2.f1) ((rd_T41 l0 x51_3).f2.f2) ((rd_T41 l0 x51_3).f3.f0) ((rd_T41 l0 x51_3).f3.f1) ((rd_T41 l1 x58_4).f0) _ _ ((rd_T41 l1 x58_4).f1.f0) _ _ ((rd_T41 l1 x58_4).f1.f1) ((rd_T41 l1 x58_4).f2.f0) ((rd_T41 l1 x58_4).f2.f1) ((rd_T41 l1 x58_4).f2.f2) ((rd_T41 l1 x58_4).f3.f0) ((rd_T41 l1 x58_4).f3.f1) t140 _ ?side1 ?side2 ?side3 ?side4 ?side5 ?side6 ?side7 ?side8 A35.out).mono ?_
                                            (case side1 => repeat (first | exact (Kd.C_below HR136_1.out HB.out) | (with_reducible refine Kd.C_alloc ?_ _) | (with_reducible refine Kd.C_drewN ?_ _) | (with_reducible refine Kd.C_drew ?_)))
                                            (case side2 => exact HC136_1.out)
                                            (case side3 => repeat (first | exact (Kd.C_below HR136_2.out HB.out) | (with_reducible refine Kd.C_alloc ?_ _) | (with_reducible refine Kd.C_drewN ?_ _) | (with_reducible refine Kd.C_drew ?_)))
                                            (case side4 => exact HC136_2.out)
                                            (case side5 => repeat (first | exact (Kd.C_below HR138_1.out HB.out) | (with_reducible refine Kd.C_alloc ?_ _) | (with_reducible refine Kd.C_drewN ?_ _) | (with_reducible refine Kd.C_drew ?_)))
                                            (case side6 => exact HC138_1.out)
                                            (case side7 => repeat (first | exact (Kd.C_below HR138_2.out HB.out) | (with_reducible refine Kd.C_alloc ?_ _) | (with_reducible refine Kd.C_drewN ?_ _) | (with_reducible refine Kd.C_drew ?_)))
                                            (case side8 => exact HC138_2.out)
                                            rintro e w46 ⟨rfl, hb⟩
                                            have HS16_ := (hb.cell (World.block_lt_of_cell? _ _ (hHeld.2.2.2.2.2.2.2.2.2.2.2.2.2.2.2.2.1))).trans (hHeld.2.2.2.2.2.2.2.2.2.2.2.2.2.2.2.2.1)
                                            have HS17_ := (hb.cell (World.block_lt_of_cell? _ _ (hHeld.2.2.2.2.2.2.2.2.2.2.2.2.2.2.2.2.2.1))).trans (hHeld.2.2.2.2.2.2.2.2.2.2.2.2.2.2.2.2.2.1)
                                            have HS18_ := (hb.cell (World.block_lt_of_cell? _ _ (hHeld.2.2.2.2.2.2.2.2.2.2.2.2.2.2.2.2.2.2.1))).trans (hHeld.2.2.2.2.2.2.2.2.2.2.2.2.2.2.2.2.2.2.1)
                                            have HS19_ := (hb.cell (World.block_lt_of_cell? _ _ (hHeld.2.2.2.2.2.2.2.2.2.2.2.2.2.2.2.2.2.2.2.1))).trans (hHeld.2.2.2.2.2.2.2.2.2.2.2.2.2.2.2.2.2.2.2.1)
                                            have HS20_ := (hb.cell (World.block_lt_of_cell? _ _ (hHeld.2.2.2.2.2.2.2.2.2.2.2.2.2.2.2.2.2.2.2.2.1))).trans (hHeld.2.2.2.2.2.2.2.2.2.2.2.2.2.2.2.2.2.2.2.2.1)
                                            have HS21_ := (hb.cell (World.block_lt_of_cell? _ _ (hHeld.2.2.2.2.2.2.2.2.2.2.2.2.2.2.2.2.2.2.2.2.2.1))).trans (hHeld.2.2.2.2.2.2.2.2.2.2.2.2.2.2.2.2.2.2.2.2.2.1)
                                            have HS22_ := (hb.cell (World.block_lt_of_cell? _ _ (hHeld.2.2.2.2.2.2.2.2.2.2.2.2.2.2.2.2.2.2.2.2.2.2.1))).trans (hHeld.2.2.2.2.2.2.2.2.2.2.2.2.2.2.2.2.2.2.2.2.2.2.1)
                                            have HS23_ := (hb.cell (World.block_lt_of_cell? _ _ (hHeld.2.2.2.2.2.2.2.2.2.2.2.2.2.2.2.2.2.2.2.2.2.2.2.1))).trans (hHeld.2.2.2.2.2.2.2.2.2.2.2.2.2.2.2.2.2.2.2.2.2.2.2.1)
                                            have HS24_ := (hb.cell (World.block_lt_of_cell? _ _ (hHeld.2.2.2.2.2.2.2.2.2.2.2.2.2.2.2.2.2.2.2.2.2.2.2.2.1))).trans (hHeld.2.2.2.2.2.2.2.2.2.2.2.2.2.2.2.2.2.2.2.2.2.2.2.2.1)
                                            have HS25_ := (hb.cell (World.block_lt_of_cell? _ _ (hHeld.2.2.2.2.2.2.2.2.2.2.2.2.2.2.2.2.2.2.2.2.2.2.2.2.2.1))).trans (hHeld.2.2.2.2.2.2.2.2.2.2.2.2.2.2.2.2.2.2.2.2.2.2.2.2.2.1)
                                            have HS26_ := (hb.cell (World.block_lt_of_cell? _ _ (hHeld.2.2.2.2.2.2.2.2.2.2.2.2.2.2.2.2.2.2.2.2.2.2.2.2.2.2.1))).trans (hHeld.2.2.2.2.2.2.2.2.2.2.2.2.2.2.2.2.2.2.2.2.2.2.2.2.2.2.1)
                                            have HS27_ := (hb.cell (World.block_lt_of_cell? _ _ (hHeld.2.2.2.2.2.2.2.2.2.2.2.2.2.2.2.2.2.2.2.2.2.2.2.2.2.2.2.1))).trans (hHeld.2.2.2.2.2.2.2.2.2.2.2.2.2.2.2.2.2.2.2.2.2.2.2.2.2.2.2.1)
                                            have HS28_ := (hb.cell (World.block_lt_of_cell? _ _ (hHeld.2.2.2.2.2.2.2.2.2.2.2.2.2.2.2.2.2.2.2.2.2.2.2.2.2.2.2.2.1))).trans (hHeld.2.2.2.2.2.2.2.2.2.2.2.2.2.2.2.2.2.2.2.2.2.2.2.2.2.2.2.2.1)
                                            have HS29_ := (hb.cell (World.block_lt_of_cell? _ _ (hHeld.2.2.2.2.2.2.2.2.2.2.2.2.2.2.2.2.2.2.2.2.2.2.2.2.2.2.2.2.2.1))).trans (hHeld.2.2.2.2.2.2.2.2.2.2.2.2.2.2.2.2.2.2.2.2.2.2.2.2.2.2.2.2.2.1)
                                            have HS30_ := (hb.cell (World.block_lt_of_cell? _ _ (hHeld.2.2.2.2.2.2.2.2.2.2.2.2.2.2.2.2.2.2.2.2.2.2.2.2.2.2.2.2.2.2.1))).trans (hHeld.2.2.2.2.2.2.2.2.2.2.2.2.2.2.2.2.2.2.2.2.2.2.2.2.2.2.2.2.2.2.1)
                                            have HS31_ := (hb.cell (World.block_lt_of_cell? _ _ (hHeld.2.2.2.2.2.2.2.2.2.2.2.2.2.2.2.2.2.2.2.2.2.2.2.2.2.2.2.2.2.2.2))).trans (hHeld.2.2.2.2.2.2.2.2.2.2.2.2.2.2.2.2.2.2.2.2.2.2.2.2.2.2.2.2.2.2.2)
                                            refine ⟨_, rfl, ?_⟩
                                            have n0_ := Aside0.mk (Kd.N_below (by (with_reducible repeat (first | apply Kd.N_alloc | apply Kd.N_drewN | apply Kd.N_drew)); exact HO_5.out) hb)
                                            have n1_ := Aside0.mk (Kd.N_below (by (with_reducible repeat (first | apply Kd.N_alloc | apply Kd.N_drewN | apply Kd.N_drew)); exact HO_6.out) hb)
                                            have n2_ := Aside0.mk (Kd.V_below (by (with_reducible repeat (first | apply Kd.V_alloc | apply Kd.V_drewN | apply Kd.V_drew)); exact HL141_1.out) hb)
                                            have n3_ := Aside0.mk (Kd.V_below (by (with_reducible repeat (first | apply Kd.V_alloc | apply Kd.V_drewN | apply Kd.V_drew)); exact HL141_2.out) hb)
                                            have n4_ := Aside0.mk (Kd.V_below (by (with_reducible repeat (first | apply Kd.V_alloc | apply Kd.V_drewN | apply Kd.V_drew)); exact HL142_1.out) hb)
                                            have n5_ := Aside0.mk (Kd.V_below (by (with_reducible repeat (first | apply Kd.V_alloc | apply Kd.V_drewN | apply Kd.V_drew)); exact HL142_2.out) hb)
                                            have n6_ := Aside0.mk (blk_below (g := gb137) (o := .cells #[.int .i64 ((rd_T41 l0 x51_3).f0), .slice A136_1 ((rd_T41 l0 x51_3).f1.f0).length c136_1, .slice A136_2 ((rd_T41 l0 x51_3).f1.f1).length c136_2, .int .u32 ((rd_T41 l0 x51_3).f2.f0), .int .u32 ((rd_T41 l0 x51_3).f2.f1), .bool ((rd_T41 l0 x51_3).f2.f2), .int .u8 ((rd_T41 l0 x51_3).f3.f0), .bool ((rd_T41 l0 x51_3).f3.f1)] 41 (0, 0)) (by (with_reducible repeat (first | refine blk_drewN ?_ _ | refine blk_drew ?_ | refine blk_alloc ?_ _)); exact BK137.out) hb)
                                            have n7_ := Aside0.mk (blk_below (g := gb139) (o := .cells #[.int .i64 ((rd_T41 l1 x58_4).f0), .slice A138_1 ((rd_T41 l1 x58_4).f1.f0).length c138_1, .slice A138_2 ((rd_T41 l1 x58_4).f1.f1).length c138_2, .int .u32 ((rd_T41 l1 x58_4).f2.f0), .int .u32 ((rd_T41 l1 x58_4).f2.f1), .bool ((rd_T41 l1 x58_4).f2.f2), .int .u8 ((rd_T41 l1 x58_4).f3.f0), .bool ((rd_T41 l1 x58_4).f3.f1)] 41 (0, 0)) (by (with_reducible repeat (first | refine blk_drewN ?_ _ | refine blk_drew ?_ | refine blk_alloc ?_ _)); exact BK139.out) hb)
                                            have n8_ := Aside0.mk (Kd.C_below (by repeat (first | (with_reducible exact HR141_1.out) | (with_reducible refine Kd.C_alloc ?_ _) | (with_reducible refine Kd.C_drewN ?_ _) | (with_reducible refine Kd.C_drew ?_) | exact HR141_1.out)) hb)
                                            have n9_ := Aside0.mk (Kd.C_below (by repeat (first | (with_reducible exact HR141_2.out) | (with_reducible refine Kd.C_alloc ?_ _) | (with_reducible refine Kd.C_drewN ?_ _) | (with_reducible refine Kd.C_drew ?_) | exact HR141_2.out)) hb)
                                            have n10_ := Aside0.mk (Kd.C_below (by repeat (first | (with_reducible exact HR142_1.out) | (with_reducible refine Kd.C_alloc ?_ _) | (with_reducible refine Kd.C_drewN ?_ _) | (with_reducible refine Kd.C_drew ?_) | exact HR142_1.out)) hb)
                                            have n11_ := Aside0.mk (Kd.C_below (by repeat (first | (with_reducible exact HR142_2.out) | (with_reducible refine Kd.C_alloc ?_ _) | (with_reducible refine Kd.C_drewN ?_ _) | (with_reducible refine Kd.C_drew ?_) | exact HR142_2.out)) hb)
                                            have n12_ := Aside0.mk (below_step (by repeat (first | (with_reducible first | exact HB.out | apply below_alloc | apply pw_below_drewN | apply below_drew1 | refine below_set ?_ GE137.out | refine below_set ?_ GE139.out) | exact HB.out)) hb)
                                            clear HO_5
                                            clear HO_6
                                            clear HL141_1
                                            clear HL141_2
                                            clear HL142_1
                                            clear HL142_2
                                            clear BK137
                                            clear BK139
                                            clear HR141_1
                                            clear HR141_2
                                            clear HR142_1
                                            clear HR142_2
                                            clear HB
                                            have HO_5 := n0_
                                            have HO_6 := n1_
                                            have HL141_1 := n2_
                                            have HL141_2 := n3_
                                            have HL142_1 := n4_
                                            have HL142_2 := n5_
                                            have BK137 := n6_
                                            have BK139 := n7_
                                            have HR141_1 := n8_
                                            have HR141_2 := n9_
                                            have HR142_1 := n10_
                                            have HR142_2 := n11_
                                            have HB := n12_
                                            clear n0_ n1_ n2_ n3_ n4_ n5_ n6_ n7_ n8_ n9_ n10_ n11_ n12_
                                            (try clear hb)
                                            (try clear hb2)
                                            (try clear hk)
                                            (try clear hi)
                                            refine hK.out _ _ ⟨(blk_cell BK137.out 0).trans rfl, (blk_cell BK137.out 1).trans rfl, (blk_cell BK137.out 2).trans rfl, (blk_cell BK137.out 3).trans rfl, (blk_cell BK137.out 4).trans rfl, (blk_cell BK137.out 5).trans rfl, (blk_cell BK137.out 6).trans rfl, (blk_cell BK137.out 7).trans rfl, (blk_cell BK139.out 0).trans rfl, (blk_cell BK139.out 1).trans rfl, (blk_cell BK139.out 2).trans rfl, (blk_cell BK139.out 3).trans rfl, (blk_cell BK139.out 4).trans rfl, (blk_cell BK139.out 5).trans rfl, (blk_cell BK139.out 6).trans rfl, (blk_cell BK139.out 7).trans rfl, HS16_, HS17_, HS18_, HS19_, HS20_, HS21_, HS22_, HS23_, HS24_, HS25_, HS26_, HS27_, HS28_, HS29_, HS30_, HS31_⟩ (fun hHeld => ?_)
                                            clear hK K
                                            refine norm_ (a' := ?_) ?_ ?_
                                            rotate_left
                                            · show Act.put _ (some 65) _ = _
                                              simp only [Act.put, List.setIfInBounds_toArray, List.set_cons_zero, List.set_cons_succ, i64_w, i32_w]
                                              rfl
                                            refine one_ (i := 11) (N := some 74) #[true, true, true, true, true, true, true, true, true, true, true, true, false] rfl rfl (one_of HT_.out (by kernel_rfl)) (by decide) (fun K hK => ?_)
                                            refine goes_ Try.func18 (by kernel_rfl) rfl #[.agg #[.int .i64 ((rd_T46 t126 x51_3).f0), .slice A141_1 ((rd_T46 t126 x51_3).f1).length c141_1, .slice A141_2 ((rd_T46 t126 x51_3).f2).length c141_2, .int .u32 ((rd_T46 t126 x51_3).f3.f0), .int .u32 ((rd_T46 t126 x51_3).f3.f1), .bool ((rd_T46 t126 x51_3).f3.f2), .int .u8 ((rd_T46 t126 x51_3).f4), .bool ((rd_T46 t126 x51_3).f5)], .agg #[.int .i64 ((rd_T46 t129 x58_4).f0), .slice A142_1 ((rd_T46 t129 x58_4).f1).length c142_1, .slice A142_2 ((rd_T46 t129 x58_4).f2).length c142_2, .int .u32 ((rd_T46 t129 x58_4).f3.f0), .int .u32 ((rd_T46 t129 x58_4).f3.f1), .bool ((rd_T46 t129 x58_4).f3.f2), .int .u8 ((rd_T46 t129 x58_4).f4), .bool ((rd_T46 t129 x58_4).f5)]] (by rfl) rfl rfl (by (try simp only [List.map_toArray, List.map_cons, List.map_nil]); first | done | rfl | (simp only [List.length_drop, List.length_take]; rfl)) ?_
                                            with_reducible refine (trunnionref29_Match.calls ((rd_T46 t126 x51_3).f0) _ _ ((rd_T46 t126 x51_3).f1) _ _ ((rd_T46 t126 x51_3).f2) ((rd_T46 t126 x51_3).f3.f0) ((rd_T46 t126 x51_3).f3.f1) ((rd_T46 t126 x51_3).f3.f2) ((rd_T46 t126 x51_3).f4) ((rd_T46 t126 x51_3).f5) ((rd_T46 t129 x58_4).f0) _ _ ((rd_T46 t129 x58_4).f1) _ _ ((rd_T46 t129 x58_4).f2) ((rd_T46 t129 x58_4).f3.f0) ((rd_T46 t129 x58_4).f3.f1) ((rd_T46 t129 x58_4).f3.f2) ((rd_T46 t129 x58_4).f4) ((rd_T46 t129 x58_4).f5) t143 _ ?side1 ?side2 ?side3 ?side4 ?side5 ?side6 ?side7 ?side8 A39.out).mono ?_
                                            (case side1 => repeat (first | exact (by repeat (first | (with_reducible exact HR141_1.out) | (with_reducible refine Kd.C_alloc ?_ _) | (with_reducible refine Kd.C_drewN ?_ _) | (with_reducible refine Kd.C_drew ?_) | exact HR141_1.out)) | (with_reducible refine Kd.C_alloc ?_ _) | (with_reducible refine Kd.C_drewN ?_ _) | (with_reducible refine Kd.C_drew ?_)))
                                            (case side2 => exact HC141_1.out)
                                            (case side3 => repeat (first | exact (by repeat (first | (with_reducible exact HR141_2.out) | (with_reducible refine Kd.C_alloc ?_ _) | (with_reducible refine Kd.C_drewN ?_ _) | (with_reducible refine Kd.C_drew ?_) | exact HR141_2.out)) | (with_reducible refine Kd.C_alloc ?_ _) | (with_reducible refine Kd.C_drewN ?_ _) | (with_reducible refine Kd.C_drew ?_)))
                                            (case side4 => exact HC141_2.out)
                                            (case side5 => repeat (first | exact (by repeat (first | (with_reducible exact HR142_1.out) | (with_reducible refine Kd.C_alloc ?_ _) | (with_reducible refine Kd.C_drewN ?_ _) | (with_reducible refine Kd.C_drew ?_) | exact HR142_1.out)) | (with_reducible refine Kd.C_alloc ?_ _) | (with_reducible refine Kd.C_drewN ?_ _) | (with_reducible refine Kd.C_drew ?_)))
                                            (case side6 => exact HC142_1.out)
                                            (case side7 => repeat (first | exact (by repeat (first | (with_reducible exact HR142_2.out) | (with_reducible refine Kd.C_alloc ?_ _) | (with_reducible refine Kd.C_drewN ?_ _) | (with_reducible refine Kd.C_drew ?_) | exact HR142_2.out)) | (with_reducible refine Kd.C_alloc ?_ _) | (with_reducible refine Kd.C_drewN ?_ _) | (with_reducible refine Kd.C_drew ?_)))
                                            (case side8 => exact HC142_2.out)
                                            rintro e w47 ⟨rfl, hb⟩
                                            have HS16_ := (hb.cell (World.block_lt_of_cell? _ _ (hHeld.2.2.2.2.2.2.2.2.2.2.2.2.2.2.2.2.1))).trans (hHeld.2.2.2.2.2.2.2.2.2.2.2.2.2.2.2.2.1)
                                            have HS17_ := (hb.cell (World.block_lt_of_cell? _ _ (hHeld.2.2.2.2.2.2.2.2.2.2.2.2.2.2.2.2.2.1))).trans (hHeld.2.2.2.2.2.2.2.2.2.2.2.2.2.2.2.2.2.1)
                                            have HS18_ := (hb.cell (World.block_lt_of_cell? _ _ (hHeld.2.2.2.2.2.2.2.2.2.2.2.2.2.2.2.2.2.2.1))).trans (hHeld.2.2.2.2.2.2.2.2.2.2.2.2.2.2.2.2.2.2.1)
                                            have HS19_ := (hb.cell (World.block_lt_of_cell? _ _ (hHeld.2.2.2.2.2.2.2.2.2.2.2.2.2.2.2.2.2.2.2.1))).trans (hHeld.2.2.2.2.2.2.2.2.2.2.2.2.2.2.2.2.2.2.2.1)
                                            have HS20_ := (hb.cell (World.block_lt_of_cell? _ _ (hHeld.2.2.2.2.2.2.2.2.2.2.2.2.2.2.2.2.2.2.2.2.1))).trans (hHeld.2.2.2.2.2.2.2.2.2.2.2.2.2.2.2.2.2.2.2.2.1)
                                            have HS21_ := (hb.cell (World.block_lt_of_cell? _ _ (hHeld.2.2.2.2.2.2.2.2.2.2.2.2.2.2.2.2.2.2.2.2.2.1))).trans (hHeld.2.2.2.2.2.2.2.2.2.2.2.2.2.2.2.2.2.2.2.2.2.1)
                                            have HS22_ := (hb.cell (World.block_lt_of_cell? _ _ (hHeld.2.2.2.2.2.2.2.2.2.2.2.2.2.2.2.2.2.2.2.2.2.2.1))).trans (hHeld.2.2.2.2.2.2.2.2.2.2.2.2.2.2.2.2.2.2.2.2.2.2.1)
                                            have HS23_ := (hb.cell (World.block_lt_of_cell? _ _ (hHeld.2.2.2.2.2.2.2.2.2.2.2.2.2.2.2.2.2.2.2.2.2.2.2.1))).trans (hHeld.2.2.2.2.2.2.2.2.2.2.2.2.2.2.2.2.2.2.2.2.2.2.2.1)
                                            have HS24_ := (hb.cell (World.block_lt_of_cell? _ _ (hHeld.2.2.2.2.2.2.2.2.2.2.2.2.2.2.2.2.2.2.2.2.2.2.2.2.1))).trans (hHeld.2.2.2.2.2.2.2.2.2.2.2.2.2.2.2.2.2.2.2.2.2.2.2.2.1)
                                            have HS25_ := (hb.cell (World.block_lt_of_cell? _ _ (hHeld.2.2.2.2.2.2.2.2.2.2.2.2.2.2.2.2.2.2.2.2.2.2.2.2.2.1))).trans (hHeld.2.2.2.2.2.2.2.2.2.2.2.2.2.2.2.2.2.2.2.2.2.2.2.2.2.1)
                                            have HS26_ := (hb.cell (World.block_lt_of_cell? _ _ (hHeld.2.2.2.2.2.2.2.2.2.2.2.2.2.2.2.2.2.2.2.2.2.2.2.2.2.2.1))).trans (hHeld.2.2.2.2.2.2.2.2.2.2.2.2.2.2.2.2.2.2.2.2.2.2.2.2.2.2.1)
                                            have HS27_ := (hb.cell (World.block_lt_of_cell? _ _ (hHeld.2.2.2.2.2.2.2.2.2.2.2.2.2.2.2.2.2.2.2.2.2.2.2.2.2.2.2.1))).trans (hHeld.2.2.2.2.2.2.2.2.2.2.2.2.2.2.2.2.2.2.2.2.2.2.2.2.2.2.2.1)
                                            have HS28_ := (hb.cell (World.block_lt_of_cell? _ _ (hHeld.2.2.2.2.2.2.2.2.2.2.2.2.2.2.2.2.2.2.2.2.2.2.2.2.2.2.2.2.1))).trans (hHeld.2.2.2.2.2.2.2.2.2.2.2.2.2.2.2.2.2.2.2.2.2.2.2.2.2.2.2.2.1)
                                            have HS29_ := (hb.cell (World.block_lt_of_cell? _ _ (hHeld.2.2.2.2.2.2.2.2.2.2.2.2.2.2.2.2.2.2.2.2.2.2.2.2.2.2.2.2.2.1))).trans (hHeld.2.2.2.2.2.2.2.2.2.2.2.2.2.2.2.2.2.2.2.2.2.2.2.2.2.2.2.2.2.1)
                                            have HS30_ := (hb.cell (World.block_lt_of_cell? _ _ (hHeld.2.2.2.2.2.2.2.2.2.2.2.2.2.2.2.2.2.2.2.2.2.2.2.2.2.2.2.2.2.2.1))).trans (hHeld.2.2.2.2.2.2.2.2.2.2.2.2.2.2.2.2.2.2.2.2.2.2.2.2.2.2.2.2.2.2.1)
                                            have HS31_ := (hb.cell (World.block_lt_of_cell? _ _ (hHeld.2.2.2.2.2.2.2.2.2.2.2.2.2.2.2.2.2.2.2.2.2.2.2.2.2.2.2.2.2.2.2))).trans (hHeld.2.2.2.2.2.2.2.2.2.2.2.2.2.2.2.2.2.2.2.2.2.2.2.2.2.2.2.2.2.2.2)
                                            refine ⟨_, rfl, ?_⟩
                                            have n0_ := Aside0.mk (Kd.N_below (by (with_reducible repeat (first | apply Kd.N_alloc | apply Kd.N_drewN | apply Kd.N_drew)); exact HO_5.out) hb)
                                            have n1_ := Aside0.mk (Kd.N_below (by (with_reducible repeat (first | apply Kd.N_alloc | apply Kd.N_drewN | apply Kd.N_drew)); exact HO_6.out) hb)
                                            have n2_ := Aside0.mk (Kd.V_below (by (with_reducible repeat (first | apply Kd.V_alloc | apply Kd.V_drewN | apply Kd.V_drew)); exact HL141_1.out) hb)
                                            have n3_ := Aside0.mk (Kd.V_below (by (with_reducible repeat (first | apply Kd.V_alloc | apply Kd.V_drewN | apply Kd.V_drew)); exact HL141_2.out) hb)
                                            have n4_ := Aside0.mk (Kd.V_below (by (with_reducible repeat (first | apply Kd.V_alloc | apply Kd.V_drewN | apply Kd.V_drew)); exact HL142_1.out) hb)
                                            have n5_ := Aside0.mk (Kd.V_below (by (with_reducible repeat (first | apply Kd.V_alloc | apply Kd.V_drewN | apply Kd.V_drew)); exact HL142_2.out) hb)
                                            have n6_ := Aside0.mk (blk_below (g := gb137) (o := .cells #[.int .i64 ((rd_T41 l0 x51_3).f0), .slice A136_1 ((rd_T41 l0 x51_3).f1.f0).length c136_1, .slice A136_2 ((rd_T41 l0 x51_3).f1.f1).length c136_2, .int .u32 ((rd_T41 l0 x51_3).f2.f0), .int .u32 ((rd_T41 l0 x51_3).f2.f1), .bool ((rd_T41 l0 x51_3).f2.f2), .int .u8 ((rd_T41 l0 x51_3).f3.f0), .bool ((rd_T41 l0 x51_3).f3.f1)] 41 (0, 0)) (by (with_reducible repeat (first | refine blk_drewN ?_ _ | refine blk_drew ?_ | refine blk_alloc ?_ _)); exact BK137.out) hb)
                                            have n7_ := Aside0.mk (blk_below (g := gb139) (o := .cells #[.int .i64 ((rd_T41 l1 x58_4).f0), .slice A138_1 ((rd_T41 l1 x58_4).f1.f0).length c138_1, .slice A138_2 ((rd_T41 l1 x58_4).f1.f1).length c138_2, .int .u32 ((rd_T41 l1 x58_4).f2.f0), .int .u32 ((rd_T41 l1 x58_4).f2.f1), .bool ((rd_T41 l1 x58_4).f2.f2), .int .u8 ((rd_T41 l1 x58_4).f3.f0), .bool ((rd_T41 l1 x58_4).f3.f1)] 41 (0, 0)) (by (with_reducible repeat (first | refine blk_drewN ?_ _ | refine blk_drew ?_ | refine blk_alloc ?_ _)); exact BK139.out) hb)
                                            have n8_ := Aside0.mk (Kd.C_below (by repeat (first | (with_reducible exact HR141_1.out) | (with_reducible refine Kd.C_alloc ?_ _) | (with_reducible refine Kd.C_drewN ?_ _) | (with_reducible refine Kd.C_drew ?_) | exact HR141_1.out)) hb)
                                            have n9_ := Aside0.mk (Kd.C_below (by repeat (first | (with_reducible exact HR141_2.out) | (with_reducible refine Kd.C_alloc ?_ _) | (with_reducible refine Kd.C_drewN ?_ _) | (with_reducible refine Kd.C_drew ?_) | exact HR141_2.out)) hb)
                                            have n10_ := Aside0.mk (Kd.C_below (by repeat (first | (with_reducible exact HR142_1.out) | (with_reducible refine Kd.C_alloc ?_ _) | (with_reducible refine Kd.C_drewN ?_ _) | (with_reducible refine Kd.C_drew ?_) | exact HR142_1.out)) hb)
                                            have n11_ := Aside0.mk (Kd.C_below (by repeat (first | (with_reducible exact HR142_2.out) | (with_reducible refine Kd.C_alloc ?_ _) | (with_reducible refine Kd.C_drewN ?_ _) | (with_reducible refine Kd.C_drew ?_) | exact HR142_2.out)) hb)
                                            have n12_ := Aside0.mk (below_step (by repeat (first | (with_reducible first | exact HB.out | apply below_alloc | apply pw_below_drewN | apply below_drew1 | refine below_set ?_ GE137.out | refine below_set ?_ GE139.out) | exact HB.out)) hb)
                                            clear HO_5
                                            clear HO_6
                                            clear HL141_1
                                            clear HL141_2
                                            clear HL142_1
                                            clear HL142_2
                                            clear BK137
                                            clear BK139
                                            clear HR141_1
                                            clear HR141_2
                                            clear HR142_1
                                            clear HR142_2
                                            clear HB
                                            have HO_5 := n0_
                                            have HO_6 := n1_
                                            have HL141_1 := n2_
                                            have HL141_2 := n3_
                                            have HL142_1 := n4_
                                            have HL142_2 := n5_
                                            have BK137 := n6_
                                            have BK139 := n7_
                                            have HR141_1 := n8_
                                            have HR141_2 := n9_
                                            have HR142_1 := n10_
                                            have HR142_2 := n11_
                                            have HB := n12_
                                            clear n0_ n1_ n2_ n3_ n4_ n5_ n6_ n7_ n8_ n9_ n10_ n11_ n12_
                                            (try clear hb)
                                            (try clear hb2)
                                            (try clear hk)
                                            (try clear hi)
                                            refine hK.out _ _ ⟨(blk_cell BK137.out 0).trans rfl, (blk_cell BK137.out 1).trans rfl, (blk_cell BK137.out 2).trans rfl, (blk_cell BK137.out 3).trans rfl, (blk_cell BK137.out 4).trans rfl, (blk_cell BK137.out 5).trans rfl, (blk_cell BK137.out 6).trans rfl, (blk_cell BK137.out 7).trans rfl, (blk_cell BK139.out 0).trans rfl, (blk_cell BK139.out 1).trans rfl, (blk_cell BK139.out 2).trans rfl, (blk_cell BK139.out 3).trans rfl, (blk_cell BK139.out 4).trans rfl, (blk_cell BK139.out 5).trans rfl, (blk_cell BK139.out 6).trans rfl, (blk_cell BK139.out 7).trans rfl, HS16_, HS17_, HS18_, HS19_, HS20_, HS21_, HS22_, HS23_, HS24_, HS25_, HS26_, HS27_, HS28_, HS29_, HS30_, HS31_⟩ (fun hHeld => ?_)
                                            clear hK K
                                            refine norm_ (a' := ?_) ?_ ?_
                                            rotate_left
                                            · show Act.put _ (some 74) _ = _
                                              simp only [Act.put, List.setIfInBounds_toArray, List.set_cons_zero, List.set_cons_succ, i64_w, i32_w]
                                              rfl
                                            refine pure_ (i := 12) (N := some 75) (v := ?_) (a' := ?_) #[true, true, true, true, true, true, true, true, true, true, true, true, true] rfl rfl (any_of HT_.out (by kernel_rfl)) (fun _ _ _ h => h) (Or.inl ⟨by rfl, ?_⟩) ?_ ?_
                                            rotate_left
                                            · intro w'
                                              go_simp
                                              with_reducible rfl
                                            rotate_left
                                            · simp only [Act.put, List.setIfInBounds_toArray, List.set_cons_zero, List.set_cons_succ, i64_w, i32_w]
                                              rfl
                                            refine done_ (done_of HT_.out (by kernel_rfl)) ?_
                                            try go_wp2
                                            go_ret
                                            exact ⟨by first | rfl | (simp [errW_none, errW_some] <;> rfl) | (simp [*, errW_none, errW_some] <;> rfl), by repeat (first | (with_reducible first | exact HB.out | apply below_alloc | apply pw_below_drewN | apply below_drew1 | refine below_set ?_ GE137.out | refine below_set ?_ GE139.out) | exact HB.out)⟩
                                          · rw [if_neg c40] at H
                                            have c40b0 : (t140 != t143) = false := by simpa using c40
                                            (try (have c40b1 : decide (t140 = t143) = true := by simpa using c40))
                                            (try (have c40b2 : (t140 == t143) = true := by simpa using c40))
                                            clear c40
                                            have H' := Aside0.mk H
                                            clear H
                                            have p138 : 0 ≤ (x58_4 : Int) := of_decide_eq_true (by first | (with_reducible assumption) | assumption)
                                            have q138 : x58_4 < (l1.length : Int) := of_decide_eq_true (by first | (with_reducible assumption) | assumption)
                                            obtain ⟨ad138, A138_1, c138_1, A138_2, c138_2, e138, hx138_0, hx138_1, hx138_2, hx138_3, hx138_4, hx138_5, hx138_6, hx138_7, hl138_1, hi138_1, hl138_2, hi138_2⟩ := at_T41 HR1.out x58_4 p138 q138
                                            cases e138
                                            replace hx138_0 := (HB.out.cell (World.block_lt_of_cell? w _ hx138_0)).trans hx138_0
                                            replace hx138_1 := (HB.out.cell (World.block_lt_of_cell? w _ hx138_1)).trans hx138_1
                                            replace hx138_2 := (HB.out.cell (World.block_lt_of_cell? w _ hx138_2)).trans hx138_2
                                            replace hx138_3 := (HB.out.cell (World.block_lt_of_cell? w _ hx138_3)).trans hx138_3
                                            replace hx138_4 := (HB.out.cell (World.block_lt_of_cell? w _ hx138_4)).trans hx138_4
                                            replace hx138_5 := (HB.out.cell (World.block_lt_of_cell? w _ hx138_5)).trans hx138_5
                                            replace hx138_6 := (HB.out.cell (World.block_lt_of_cell? w _ hx138_6)).trans hx138_6
                                            replace hx138_7 := (HB.out.cell (World.block_lt_of_cell? w _ hx138_7)).trans hx138_7
                                            have HR138_1 := Aside0.mk hi138_1
                                            have HC138_1 := Aside0.mk hl138_1
                                            clear hi138_1 hl138_1
                                            have HR138_2 := Aside0.mk hi138_2
                                            have HC138_2 := Aside0.mk hl138_2
                                            clear hi138_2 hl138_2
                                            replace p138 := eq_true p138
                                            replace q138 := eq_true q138
                                            try go_wp2_with (first | ((with_reducible refine gate_dst (N := 14) rfl ?_); refine box_event ?hg (N := 14) ?hd (cs := #[.int .i64 0, .slice none 0 0, .slice none 0 0, .int .u32 0, .int .u32 0, .bool false, .int .u8 0, .bool false]) (t := 41) ?hr ?_; (case hd => rfl); (case hg => rfl); (case hr => first | (go_simp; done) | (go_simp; rfl)); intro gb139 hg w48 hbox hb; have n0_ := Aside0.mk (Kd.N_below (Kd.N_elderB (by (with_reducible repeat (first | apply Kd.N_alloc | apply Kd.N_drewN | apply Kd.N_drew)); exact HO_5.out) gb139 (Nat.le_of_eq hg.symm)) hb); have n1_ := Aside0.mk (Kd.N_below (Kd.N_elderB (by (with_reducible repeat (first | apply Kd.N_alloc | apply Kd.N_drewN | apply Kd.N_drew)); exact HO_6.out) gb139 (Nat.le_of_eq hg.symm)) hb); have n2_ := Aside0.mk (blk_below (g := gb137) (o := .cells #[.int .i64 ((rd_T41 l0 x51_3).f0), .slice A136_1 ((rd_T41 l0 x51_3).f1.f0).length c136_1, .slice A136_2 ((rd_T41 l0 x51_3).f1.f1).length c136_2, .int .u32 ((rd_T41 l0 x51_3).f2.f0), .int .u32 ((rd_T41 l0 x51_3).f2.f1), .bool ((rd_T41 l0 x51_3).f2.f2), .int .u8 ((rd_T41 l0 x51_3).f3.f0), .bool ((rd_T41 l0 x51_3).f3.f1)] 41 (0, 0)) (by (with_reducible repeat (first | refine blk_drewN ?_ _ | refine blk_drew ?_ | refine blk_alloc ?_ _)); exact BK137.out) hb); have n3_ := Aside0.mk (below_step (by repeat (first | (with_reducible first | exact HB.out | apply below_alloc | apply pw_below_drewN | apply below_drew1 | refine below_set ?_ GE137.out) | exact HB.out)) hb); have n4_ := Aside0.mk (hbox); have n5_ := Aside0.mk ((by rw [hg]; exact (below_size (by repeat (first | (with_reducible first | exact HB.out | apply below_alloc | apply pw_below_drewN | apply below_drew1 | refine below_set ?_ GE137.out) | exact HB.out))) : w.heap.size ≤ gb139)); have n6_ := Aside0.mk ((by rw [hg]; exact (below_size (by repeat (first | (with_reducible first | exact HB.out | apply below_alloc | apply pw_below_drewN | apply below_drew1 | refine below_set ?_ GE137.out) | exact HB.out))) : w.heap.size ≤ gb139)); have n7_ := Aside0.mk ((by rw [hg]; exact Nat.ne_of_lt (blk_lt (g := gb137) (o := .cells #[.int .i64 ((rd_T41 l0 x51_3).f0), .slice A136_1 ((rd_T41 l0 x51_3).f1.f0).length c136_1, .slice A136_2 ((rd_T41 l0 x51_3).f1.f1).length c136_2, .int .u32 ((rd_T41 l0 x51_3).f2.f0), .int .u32 ((rd_T41 l0 x51_3).f2.f1), .bool ((rd_T41 l0 x51_3).f2.f2), .int .u8 ((rd_T41 l0 x51_3).f3.f0), .bool ((rd_T41 l0 x51_3).f3.f1)] 41 (0, 0)) (by (with_reducible repeat (first | refine blk_drewN ?_ _ | refine blk_drew ?_ | refine blk_alloc ?_ _)); exact BK137.out)) : gb137 ≠ gb139)); have n8_ := Aside0.mk ((by rw [hg]; exact Nat.ne_of_gt (blk_lt (g := gb137) (o := .cells #[.int .i64 ((rd_T41 l0 x51_3).f0), .slice A136_1 ((rd_T41 l0 x51_3).f1.f0).length c136_1, .slice A136_2 ((rd_T41 l0 x51_3).f1.f1).length c136_2, .int .u32 ((rd_T41 l0 x51_3).f2.f0), .int .u32 ((rd_T41 l0 x51_3).f2.f1), .bool ((rd_T41 l0 x51_3).f2.f2), .int .u8 ((rd_T41 l0 x51_3).f3.f0), .bool ((rd_T41 l0 x51_3).f3.f1)] 41 (0, 0)) (by (with_reducible repeat (first | refine blk_drewN ?_ _ | refine blk_drew ?_ | refine blk_alloc ?_ _)); exact BK137.out)) : gb139 ≠ gb137)); clear HO_5; clear HO_6; clear BK137; clear HB; have HO_5 := n0_; have HO_6 := n1_; have BK137 := n2_; have HB := n3_; have BK139 := n4_; have GW139 := n5_; have GE139 := n6_; have NB137_139 := n7_; have NB139_137 := n8_; clear n0_ n1_ n2_ n3_ n4_ n5_ n6_ n7_ n8_; clear hb hbox hg; have hnb49 := NB139_137.out; have hnc49 := NB137_139.out; have hcz50_0 : w48.cell? ⟨gb139, 0, none⟩ = some (.int .i64 0) := (blk_cell BK139.out 0).trans rfl; have hcz50_1 : w48.cell? ⟨gb139, 1, none⟩ = some (.slice none 0 0) := (blk_cell BK139.out 1).trans rfl; have hcz50_2 : w48.cell? ⟨gb139, 2, none⟩ = some (.slice none 0 0) := (blk_cell BK139.out 2).trans rfl; have hcz50_3 : w48.cell? ⟨gb139, 3, none⟩ = some (.int .u32 0) := (blk_cell BK139.out 3).trans rfl; have hcz50_4 : w48.cell? ⟨gb139, 4, none⟩ = some (.int .u32 0) := (blk_cell BK139.out 4).trans rfl; have hcz50_5 : w48.cell? ⟨gb139, 5, none⟩ = some (.bool false) := (blk_cell BK139.out 5).trans rfl; have hcz50_6 : w48.cell? ⟨gb139, 6, none⟩ = some (.int .u8 0) := (blk_cell BK139.out 6).trans rfl; have hcz50_7 : w48.cell? ⟨gb139, 7, none⟩ = some (.bool false) := (blk_cell BK139.out 7).trans rfl; have hfz50_0 := blk_frozen BK139.out 0; have hfz50_1 := blk_frozen BK139.out 1; have hfz50_2 := blk_frozen BK139.out 2; have hfz50_3 := blk_frozen BK139.out 3; have hfz50_4 := blk_frozen BK139.out 4; have hfz50_5 := blk_frozen BK139.out 5; have hfz50_6 := blk_frozen BK139.out 6; have hfz50_7 := blk_frozen BK139.out 7))
                                            have n0_ : Aside0 (Kd.N k46 46 ((((((((w48.setCell ⟨gb139, 0, none⟩ (.int .i64 ((rd_T41 l1 x58_4).f0))).setCell ⟨gb139, 1, none⟩ (.slice A138_1 ((rd_T41 l1 x58_4).f1.f0).length c138_1)).setCell ⟨gb139, 2, none⟩ (.slice A138_2 ((rd_T41 l1 x58_4).f1.f1).length c138_2)).setCell ⟨gb139, 3, none⟩ (.int .u32 ((rd_T41 l1 x58_4).f2.f0))).setCell ⟨gb139, 4, none⟩ (.int .u32 ((rd_T41 l1 x58_4).f2.f1))).setCell ⟨gb139, 5, none⟩ (.bool ((rd_T41 l1 x58_4).f2.f2))).setCell ⟨gb139, 6, none⟩ (.int .u8 ((rd_T41 l1 x58_4).f3.f0))).setCell ⟨gb139, 7, none⟩ (.bool ((rd_T41 l1 x58_4).f3.f1))) w.heap.size (fun k_ => some k_ ≠ (.slice Ao23 t129.length co23 : Value).ownBlock ∧ k_ ≠ gb137 ∧ k_ ≠ gb139) (.slice Ao22 t126.length co22) t126) := ⟨by (with_reducible repeat (first | apply Kd.N_alloc | apply Kd.N_drewN | apply Kd.N_drew)); exact Kd.N_mono (Kd.N_far (p := ⟨gb139, 7, none⟩) (Kd.N_far (p := ⟨gb139, 6, none⟩) (Kd.N_far (p := ⟨gb139, 5, none⟩) (Kd.N_far (p := ⟨gb139, 4, none⟩) (Kd.N_far (p := ⟨gb139, 3, none⟩) (Kd.N_far (p := ⟨gb139, 2, none⟩) (Kd.N_far (p := ⟨gb139, 1, none⟩) (Kd.N_far (p := ⟨gb139, 0, none⟩) (Kd.N_mono HO_5.out (fun k_ hk => (⟨hk, hk.2⟩ : _ ∧ k_ ≠ gb139))) (fun _ hk => hk.2) (.int .i64 ((rd_T41 l1 x58_4).f0))) (fun _ hk => hk.2) (.slice A138_1 ((rd_T41 l1 x58_4).f1.f0).length c138_1)) (fun _ hk => hk.2) (.slice A138_2 ((rd_T41 l1 x58_4).f1.f1).length c138_2)) (fun _ hk => hk.2) (.int .u32 ((rd_T41 l1 x58_4).f2.f0))) (fun _ hk => hk.2) (.int .u32 ((rd_T41 l1 x58_4).f2.f1))) (fun _ hk => hk.2) (.bool ((rd_T41 l1 x58_4).f2.f2))) (fun _ hk => hk.2) (.int .u8 ((rd_T41 l1 x58_4).f3.f0))) (fun _ hk => hk.2) (.bool ((rd_T41 l1 x58_4).f3.f1))) (fun _ hk => ⟨hk.1.1.1, ⟨hk.1.1.2, hk.1.2⟩⟩)⟩
                                            have n1_ : Aside0 (Kd.N k46 46 ((((((((w48.setCell ⟨gb139, 0, none⟩ (.int .i64 ((rd_T41 l1 x58_4).f0))).setCell ⟨gb139, 1, none⟩ (.slice A138_1 ((rd_T41 l1 x58_4).f1.f0).length c138_1)).setCell ⟨gb139, 2, none⟩ (.slice A138_2 ((rd_T41 l1 x58_4).f1.f1).length c138_2)).setCell ⟨gb139, 3, none⟩ (.int .u32 ((rd_T41 l1 x58_4).f2.f0))).setCell ⟨gb139, 4, none⟩ (.int .u32 ((rd_T41 l1 x58_4).f2.f1))).setCell ⟨gb139, 5, none⟩ (.bool ((rd_T41 l1 x58_4).f2.f2))).setCell ⟨gb139, 6, none⟩ (.int .u8 ((rd_T41 l1 x58_4).f3.f0))).setCell ⟨gb139, 7, none⟩ (.bool ((rd_T41 l1 x58_4).f3.f1))) w.heap.size (fun k_ => some k_ ≠ (.slice Ao22 t126.length co22 : Value).ownBlock ∧ k_ ≠ gb137 ∧ k_ ≠ gb139) (.slice Ao23 t129.length co23) t129) := ⟨by (with_reducible repeat (first | apply Kd.N_alloc | apply Kd.N_drewN | apply Kd.N_drew)); exact Kd.N_mono (Kd.N_far (p := ⟨gb139, 7, none⟩) (Kd.N_far (p := ⟨gb139, 6, none⟩) (Kd.N_far (p := ⟨gb139, 5, none⟩) (Kd.N_far (p := ⟨gb139, 4, none⟩) (Kd.N_far (p := ⟨gb139, 3, none⟩) (Kd.N_far (p := ⟨gb139, 2, none⟩) (Kd.N_far (p := ⟨gb139, 1, none⟩) (Kd.N_far (p := ⟨gb139, 0, none⟩) (Kd.N_mono HO_6.out (fun k_ hk => (⟨hk, hk.2⟩ : _ ∧ k_ ≠ gb139))) (fun _ hk => hk.2) (.int .i64 ((rd_T41 l1 x58_4).f0))) (fun _ hk => hk.2) (.slice A138_1 ((rd_T41 l1 x58_4).f1.f0).length c138_1)) (fun _ hk => hk.2) (.slice A138_2 ((rd_T41 l1 x58_4).f1.f1).length c138_2)) (fun _ hk => hk.2) (.int .u32 ((rd_T41 l1 x58_4).f2.f0))) (fun _ hk => hk.2) (.int .u32 ((rd_T41 l1 x58_4).f2.f1))) (fun _ hk => hk.2) (.bool ((rd_T41 l1 x58_4).f2.f2))) (fun _ hk => hk.2) (.int .u8 ((rd_T41 l1 x58_4).f3.f0))) (fun _ hk => hk.2) (.bool ((rd_T41 l1 x58_4).f3.f1))) (fun _ hk => ⟨hk.1.1.1, ⟨hk.1.1.2, hk.1.2⟩⟩)⟩
                                            have n2_ : Aside0 (((((((((w48.setCell ⟨gb139, 0, none⟩ (.int .i64 ((rd_T41 l1 x58_4).f0))).setCell ⟨gb139, 1, none⟩ (.slice A138_1 ((rd_T41 l1 x58_4).f1.f0).length c138_1)).setCell ⟨gb139, 2, none⟩ (.slice A138_2 ((rd_T41 l1 x58_4).f1.f1).length c138_2)).setCell ⟨gb139, 3, none⟩ (.int .u32 ((rd_T41 l1 x58_4).f2.f0))).setCell ⟨gb139, 4, none⟩ (.int .u32 ((rd_T41 l1 x58_4).f2.f1))).setCell ⟨gb139, 5, none⟩ (.bool ((rd_T41 l1 x58_4).f2.f2))).setCell ⟨gb139, 6, none⟩ (.int .u8 ((rd_T41 l1 x58_4).f3.f0))).setCell ⟨gb139, 7, none⟩ (.bool ((rd_T41 l1 x58_4).f3.f1))).heap[gb137]? = some (.cells #[.int .i64 ((rd_T41 l0 x51_3).f0), .slice A136_1 ((rd_T41 l0 x51_3).f1.f0).length c136_1, .slice A136_2 ((rd_T41 l0 x51_3).f1.f1).length c136_2, .int .u32 ((rd_T41 l0 x51_3).f2.f0), .int .u32 ((rd_T41 l0 x51_3).f2.f1), .bool ((rd_T41 l0 x51_3).f2.f2), .int .u8 ((rd_T41 l0 x51_3).f3.f0), .bool ((rd_T41 l0 x51_3).f3.f1)] 41 (0, 0))) := ⟨by (with_reducible repeat (first | refine blk_drewN ?_ _ | refine blk_drew ?_ | refine blk_alloc ?_ _)); refine blk_far ?_ NB137_139.out _; (with_reducible repeat (first | refine blk_drewN ?_ _ | refine blk_drew ?_ | refine blk_alloc ?_ _)); refine blk_far ?_ NB137_139.out _; (with_reducible repeat (first | refine blk_drewN ?_ _ | refine blk_drew ?_ | refine blk_alloc ?_ _)); refine blk_far ?_ NB137_139.out _; (with_reducible repeat (first | refine blk_drewN ?_ _ | refine blk_drew ?_ | refine blk_alloc ?_ _)); refine blk_far ?_ NB137_139.out _; (with_reducible repeat (first | refine blk_drewN ?_ _ | refine blk_drew ?_ | refine blk_alloc ?_ _)); refine blk_far ?_ NB137_139.out _; (with_reducible repeat (first | refine blk_drewN ?_ _ | refine blk_drew ?_ | refine blk_alloc ?_ _)); refine blk_far ?_ NB137_139.out _; (with_reducible repeat (first | refine blk_drewN ?_ _ | refine blk_drew ?_ | refine blk_alloc ?_ _)); refine blk_far ?_ NB137_139.out _; (with_reducible repeat (first | refine blk_drewN ?_ _ | refine blk_drew ?_ | refine blk_alloc ?_ _)); refine blk_far ?_ NB137_139.out _; (with_reducible repeat (first | refine blk_drewN ?_ _ | refine blk_drew ?_ | refine blk_alloc ?_ _)); exact BK137.out⟩
                                            have n3_ : Aside0 (((((((((w48.setCell ⟨gb139, 0, none⟩ (.int .i64 ((rd_T41 l1 x58_4).f0))).setCell ⟨gb139, 1, none⟩ (.slice A138_1 ((rd_T41 l1 x58_4).f1.f0).length c138_1)).setCell ⟨gb139, 2, none⟩ (.slice A138_2 ((rd_T41 l1 x58_4).f1.f1).length c138_2)).setCell ⟨gb139, 3, none⟩ (.int .u32 ((rd_T41 l1 x58_4).f2.f0))).setCell ⟨gb139, 4, none⟩ (.int .u32 ((rd_T41 l1 x58_4).f2.f1))).setCell ⟨gb139, 5, none⟩ (.bool ((rd_T41 l1 x58_4).f2.f2))).setCell ⟨gb139, 6, none⟩ (.int .u8 ((rd_T41 l1 x58_4).f3.f0))).setCell ⟨gb139, 7, none⟩ (.bool ((rd_T41 l1 x58_4).f3.f1))).heap[gb139]? = some (.cells #[.int .i64 ((rd_T41 l1 x58_4).f0), .slice A138_1 ((rd_T41 l1 x58_4).f1.f0).length c138_1, .slice A138_2 ((rd_T41 l1 x58_4).f1.f1).length c138_2, .int .u32 ((rd_T41 l1 x58_4).f2.f0), .int .u32 ((rd_T41 l1 x58_4).f2.f1), .bool ((rd_T41 l1 x58_4).f2.f2), .int .u8 ((rd_T41 l1 x58_4).f3.f0), .bool ((rd_T41 l1 x58_4).f3.f1)] 41 (0, 0))) := ⟨by (with_reducible repeat (first | refine blk_drewN ?_ _ | refine blk_drew ?_ | refine blk_alloc ?_ _)); refine blk_put (cs := #[.int .i64 ((rd_T41 l1 x58_4).f0), .slice A138_1 ((rd_T41 l1 x58_4).f1.f0).length c138_1, .slice A138_2 ((rd_T41 l1 x58_4).f1.f1).length c138_2, .int .u32 ((rd_T41 l1 x58_4).f2.f0), .int .u32 ((rd_T41 l1 x58_4).f2.f1), .bool ((rd_T41 l1 x58_4).f2.f2), .int .u8 ((rd_T41 l1 x58_4).f3.f0), .bool false]) ?_ 7 _ rfl; (with_reducible repeat (first | refine blk_drewN ?_ _ | refine blk_drew ?_ | refine blk_alloc ?_ _)); refine blk_put (cs := #[.int .i64 ((rd_T41 l1 x58_4).f0), .slice A138_1 ((rd_T41 l1 x58_4).f1.f0).length c138_1, .slice A138_2 ((rd_T41 l1 x58_4).f1.f1).length c138_2, .int .u32 ((rd_T41 l1 x58_4).f2.f0), .int .u32 ((rd_T41 l1 x58_4).f2.f1), .bool ((rd_T41 l1 x58_4).f2.f2), .int .u8 0, .bool false]) ?_ 6 _ rfl; (with_reducible repeat (first | refine blk_drewN ?_ _ | refine blk_drew ?_ | refine blk_alloc ?_ _)); refine blk_put (cs := #[.int .i64 ((rd_T41 l1 x58_4).f0), .slice A138_1 ((rd_T41 l1 x58_4).f1.f0).length c138_1, .slice A138_2 ((rd_T41 l1 x58_4).f1.f1).length c138_2, .int .u32 ((rd_T41 l1 x58_4).f2.f0), .int .u32 ((rd_T41 l1 x58_4).f2.f1), .bool false, .int .u8 0, .bool false]) ?_ 5 _ rfl; (with_reducible repeat (first | refine blk_drewN ?_ _ | refine blk_drew ?_ | refine blk_alloc ?_ _)); refine blk_put (cs := #[.int .i64 ((rd_T41 l1 x58_4).f0), .slice A138_1 ((rd_T41 l1 x58_4).f1.f0).length c138_1, .slice A138_2 ((rd_T41 l1 x58_4).f1.f1).length c138_2, .int .u32 ((rd_T41 l1 x58_4).f2.f0), .int .u32 0, .bool false, .int .u8 0, .bool false]) ?_ 4 _ rfl; (with_reducible repeat (first | refine blk_drewN ?_ _ | refine blk_drew ?_ | refine blk_alloc ?_ _)); refine blk_put (cs := #[.int .i64 ((rd_T41 l1 x58_4).f0), .slice A138_1 ((rd_T41 l1 x58_4).f1.f0).length c138_1, .slice A138_2 ((rd_T41 l1 x58_4).f1.f1).length c138_2, .int .u32 0, .int .u32 0, .bool false, .int .u8 0, .bool false]) ?_ 3 _ rfl; (with_reducible repeat (first | refine blk_drewN ?_ _ | refine blk_drew ?_ | refine blk_alloc ?_ _)); refine blk_put (cs := #[.int .i64 ((rd_T41 l1 x58_4).f0), .slice A138_1 ((rd_T41 l1 x58_4).f1.f0).length c138_1, .slice none 0 0, .int .u32 0, .int .u32 0, .bool false, .int .u8 0, .bool false]) ?_ 2 _ rfl; (with_reducible repeat (first | refine blk_drewN ?_ _ | refine blk_drew ?_ | refine blk_alloc ?_ _)); refine blk_put (cs := #[.int .i64 ((rd_T41 l1 x58_4).f0), .slice none 0 0, .slice none 0 0, .int .u32 0, .int .u32 0, .bool false, .int .u8 0, .bool false]) ?_ 1 _ rfl; (with_reducible repeat (first | refine blk_drewN ?_ _ | refine blk_drew ?_ | refine blk_alloc ?_ _)); refine blk_put (cs := #[.int .i64 0, .slice none 0 0, .slice none 0 0, .int .u32 0, .int .u32 0, .bool false, .int .u8 0, .bool false]) ?_ 0 _ rfl; (with_reducible repeat (first | refine blk_drewN ?_ _ | refine blk_drew ?_ | refine blk_alloc ?_ _)); exact BK139.out⟩
                                            have n4_ : Aside0 (Below w.heap.size w ((((((((w48.setCell ⟨gb139, 0, none⟩ (.int .i64 ((rd_T41 l1 x58_4).f0))).setCell ⟨gb139, 1, none⟩ (.slice A138_1 ((rd_T41 l1 x58_4).f1.f0).length c138_1)).setCell ⟨gb139, 2, none⟩ (.slice A138_2 ((rd_T41 l1 x58_4).f1.f1).length c138_2)).setCell ⟨gb139, 3, none⟩ (.int .u32 ((rd_T41 l1 x58_4).f2.f0))).setCell ⟨gb139, 4, none⟩ (.int .u32 ((rd_T41 l1 x58_4).f2.f1))).setCell ⟨gb139, 5, none⟩ (.bool ((rd_T41 l1 x58_4).f2.f2))).setCell ⟨gb139, 6, none⟩ (.int .u8 ((rd_T41 l1 x58_4).f3.f0))).setCell ⟨gb139, 7, none⟩ (.bool ((rd_T41 l1 x58_4).f3.f1)))) := ⟨by repeat (first | (with_reducible first | exact HB.out | apply below_alloc | apply pw_below_drewN | apply below_drew1 | refine below_set ?_ GE137.out | refine below_set ?_ GE139.out) | exact HB.out)⟩
                                            (try clear HO_5)
                                            (try clear HO_6)
                                            (try clear BK137)
                                            (try clear BK139)
                                            (try clear HB)
                                            generalize ((((((((w48.setCell ⟨gb139, 0, none⟩ (.int .i64 ((rd_T41 l1 x58_4).f0))).setCell ⟨gb139, 1, none⟩ (.slice A138_1 ((rd_T41 l1 x58_4).f1.f0).length c138_1)).setCell ⟨gb139, 2, none⟩ (.slice A138_2 ((rd_T41 l1 x58_4).f1.f1).length c138_2)).setCell ⟨gb139, 3, none⟩ (.int .u32 ((rd_T41 l1 x58_4).f2.f0))).setCell ⟨gb139, 4, none⟩ (.int .u32 ((rd_T41 l1 x58_4).f2.f1))).setCell ⟨gb139, 5, none⟩ (.bool ((rd_T41 l1 x58_4).f2.f2))).setCell ⟨gb139, 6, none⟩ (.int .u8 ((rd_T41 l1 x58_4).f3.f0))).setCell ⟨gb139, 7, none⟩ (.bool ((rd_T41 l1 x58_4).f3.f1))) = w51 at n0_ n1_ n2_ n3_ n4_ ⊢
                                            have HO_5 := n0_
                                            have HO_6 := n1_
                                            have BK137 := n2_
                                            have BK139 := n3_
                                            have HB := n4_
                                            clear n0_ n1_ n2_ n3_ n4_
                                            have n0_ := Aside0.mk (Kd.N_drew HO_5.out)
                                            have n1_ := Aside0.mk (Kd.N_drew HO_6.out)
                                            have n2_ := Aside0.mk (blk_drew BK137.out)
                                            have n3_ := Aside0.mk (blk_drew BK139.out)
                                            have n4_ := Aside0.mk (below_drew1 HB.out)
                                            clear HO_5
                                            clear HO_6
                                            clear BK137
                                            clear BK139
                                            clear HB
                                            have HO_5 := n0_
                                            have HO_6 := n1_
                                            have BK137 := n2_
                                            have BK139 := n3_
                                            have HB := n4_
                                            clear n0_ n1_ n2_ n3_ n4_
                                            have p141 : 0 ≤ (x51_3 : Int) := of_decide_eq_true (by first | (with_reducible assumption) | assumption)
                                            have q141 : x51_3 < (t126.length : Int) := of_decide_eq_true (by first | (with_reducible assumption) | assumption)
                                            obtain ⟨ad141, A141_1, c141_1, A141_2, c141_2, e141, hx141_0, hx141_1, hx141_2, hx141_3, hx141_4, hx141_5, hx141_6, hx141_7, hl141_1, hi141_1, hl141_2, hi141_2⟩ := at_T46 (Kd.N_reads' HO_5.out).2.2 x51_3 p141 q141
                                            cases e141
                                            obtain ⟨ce141, hce141, hMe141, hcc141⟩ := Kd.N_get HO_5.out z46 x51_3 p141 (by first | exact q141 | exact of_decide_eq_true (by first | (with_reducible assumption) | assumption) | (have e_ := (Kd.N_reads' HO_5.out).1; omega))
                                            obtain ⟨ua141_1, uc141_1, ua141_2, uc141_2, rfl, ul141_1, ge141_1, ul141_2, ge141_2⟩ := k46_openF hMe141
                                            have hv141_1 := hcc141 1 _ rfl
                                            rw [add_field _ _ 1 (by omega)] at hv141_1
                                            replace hv141_1 := Option.some.inj (hv141_1.symm.trans hx141_1)
                                            injection hv141_1 with hva_ hvn_ hvc_
                                            rw [hva_] at ge141_1
                                            rw [hvc_] at ul141_1
                                            have HL141_1 := Aside0.mk (show Kd.V (Kd.int .u8) 5 _ w.heap.size _ _ ((rd_T46 t126 x51_3).f1) from Kd.V_mk ul141_1 ge141_1)
                                            clear hva_ hvn_ hvc_ ge141_1 ul141_1
                                            have hv141_2 := hcc141 2 _ rfl
                                            rw [add_field _ _ 2 (by omega)] at hv141_2
                                            replace hv141_2 := Option.some.inj (hv141_2.symm.trans hx141_2)
                                            injection hv141_2 with hva_ hvn_ hvc_
                                            rw [hva_] at ge141_2
                                            rw [hvc_] at ul141_2
                                            have HL141_2 := Aside0.mk (show Kd.V (Kd.int .u8) 5 _ w.heap.size _ _ ((rd_T46 t126 x51_3).f2) from Kd.V_mk ul141_2 ge141_2)
                                            clear hva_ hvn_ hvc_ ge141_2 ul141_2
                                            clear hcc141 hce141
                                            have HR141_1 := Aside0.mk hi141_1
                                            have HC141_1 := Aside0.mk hl141_1
                                            clear hi141_1 hl141_1
                                            have HR141_2 := Aside0.mk hi141_2
                                            have HC141_2 := Aside0.mk hl141_2
                                            clear hi141_2 hl141_2
                                            replace p141 := eq_true p141
                                            replace q141 := eq_true q141
                                            have p142 : 0 ≤ (x58_4 : Int) := of_decide_eq_true (by first | (with_reducible assumption) | assumption)
                                            have q142 : x58_4 < (t129.length : Int) := of_decide_eq_true (by first | (with_reducible assumption) | assumption)
                                            obtain ⟨ad142, A142_1, c142_1, A142_2, c142_2, e142, hx142_0, hx142_1, hx142_2, hx142_3, hx142_4, hx142_5, hx142_6, hx142_7, hl142_1, hi142_1, hl142_2, hi142_2⟩ := at_T46 (Kd.N_reads' HO_6.out).2.2 x58_4 p142 q142
                                            cases e142
                                            obtain ⟨ce142, hce142, hMe142, hcc142⟩ := Kd.N_get HO_6.out z46 x58_4 p142 (by first | exact q142 | exact of_decide_eq_true (by first | (with_reducible assumption) | assumption) | (have e_ := (Kd.N_reads' HO_6.out).1; omega))
                                            obtain ⟨ua142_1, uc142_1, ua142_2, uc142_2, rfl, ul142_1, ge142_1, ul142_2, ge142_2⟩ := k46_openF hMe142
                                            have hv142_1 := hcc142 1 _ rfl
                                            rw [add_field _ _ 1 (by omega)] at hv142_1
                                            replace hv142_1 := Option.some.inj (hv142_1.symm.trans hx142_1)
                                            injection hv142_1 with hva_ hvn_ hvc_
                                            rw [hva_] at ge142_1
                                            rw [hvc_] at ul142_1
                                            have HL142_1 := Aside0.mk (show Kd.V (Kd.int .u8) 5 _ w.heap.size _ _ ((rd_T46 t129 x58_4).f1) from Kd.V_mk ul142_1 ge142_1)
                                            clear hva_ hvn_ hvc_ ge142_1 ul142_1
                                            have hv142_2 := hcc142 2 _ rfl
                                            rw [add_field _ _ 2 (by omega)] at hv142_2
                                            replace hv142_2 := Option.some.inj (hv142_2.symm.trans hx142_2)
                                            injection hv142_2 with hva_ hvn_ hvc_
                                            rw [hva_] at ge142_2
                                            rw [hvc_] at ul142_2
                                            have HL142_2 := Aside0.mk (show Kd.V (Kd.int .u8) 5 _ w.heap.size _ _ ((rd_T46 t129 x58_4).f2) from Kd.V_mk ul142_2 ge142_2)
                                            clear hva_ hvn_ hvc_ ge142_2 ul142_2
                                            clear hcc142 hce142
                                            have HR142_1 := Aside0.mk hi142_1
                                            have HC142_1 := Aside0.mk hl142_1
                                            clear hi142_1 hl142_1
                                            have HR142_2 := Aside0.mk hi142_2
                                            have HC142_2 := Aside0.mk hl142_2
                                            clear hi142_2 hl142_2
                                            replace p142 := eq_true p142
                                            replace q142 := eq_true q142
                                            refine start_ (n := 13) (S := fun w' => w'.cell? ⟨gb137, 0, none⟩ = some (.int .i64 ((rd_T41 l0 x51_3).f0)) ∧ w'.cell? ⟨gb137, 1, none⟩ = some (.slice A136_1 ((rd_T41 l0 x51_3).f1.f0).length c136_1) ∧ w'.cell? ⟨gb137, 2, none⟩ = some (.slice A136_2 ((rd_T41 l0 x51_3).f1.f1).length c136_2) ∧ w'.cell? ⟨gb137, 3, none⟩ = some (.int .u32 ((rd_T41 l0 x51_3).f2.f0)) ∧ w'.cell? ⟨gb137, 4, none⟩ = some (.int .u32 ((rd_T41 l0 x51_3).f2.f1)) ∧ w'.cell? ⟨gb137, 5, none⟩ = some (.bool ((rd_T41 l0 x51_3).f2.f2)) ∧ w'.cell? ⟨gb137, 6, none⟩ = some (.int .u8 ((rd_T41 l0 x51_3).f3.f0)) ∧ w'.cell? ⟨gb137, 7, none⟩ = some (.bool ((rd_T41 l0 x51_3).f3.f1)) ∧ w'.cell? ⟨gb139, 0, none⟩ = some (.int .i64 ((rd_T41 l1 x58_4).f0)) ∧ w'.cell? ⟨gb139, 1, none⟩ = some (.slice A138_1 ((rd_T41 l1 x58_4).f1.f0).length c138_1) ∧ w'.cell? ⟨gb139, 2, none⟩ = some (.slice A138_2 ((rd_T41 l1 x58_4).f1.f1).length c138_2) ∧ w'.cell? ⟨gb139, 3, none⟩ = some (.int .u32 ((rd_T41 l1 x58_4).f2.f0)) ∧ w'.cell? ⟨gb139, 4, none⟩ = some (.int .u32 ((rd_T41 l1 x58_4).f2.f1)) ∧ w'.cell? ⟨gb139, 5, none⟩ = some (.bool ((rd_T41 l1 x58_4).f2.f2)) ∧ w'.cell? ⟨gb139, 6, none⟩ = some (.int .u8 ((rd_T41 l1 x58_4).f3.f0)) ∧ w'.cell? ⟨gb139, 7, none⟩ = some (.bool ((rd_T41 l1 x58_4).f3.f1)) ∧ w'.cell? (ad141.add ((x51_3).toNat * 8)) = some (.int .i64 ((rd_T46 t126 x51_3).f0)) ∧ w'.cell? ⟨(ad141.add ((x51_3).toNat * 8)).block, (ad141.add ((x51_3).toNat * 8)).off + 1, none⟩ = some (.slice A141_1 ((rd_T46 t126 x51_3).f1).length c141_1) ∧ w'.cell? ⟨(ad141.add ((x51_3).toNat * 8)).block, (ad141.add ((x51_3).toNat * 8)).off + 2, none⟩ = some (.slice A141_2 ((rd_T46 t126 x51_3).f2).length c141_2) ∧ w'.cell? ⟨(ad141.add ((x51_3).toNat * 8)).block, (ad141.add ((x51_3).toNat * 8)).off + 3, none⟩ = some (.int .u32 ((rd_T46 t126 x51_3).f3.f0)) ∧ w'.cell? ⟨(ad141.add ((x51_3).toNat * 8)).block, (ad141.add ((x51_3).toNat * 8)).off + 4, none⟩ = some (.int .u32 ((rd_T46 t126 x51_3).f3.f1)) ∧ w'.cell? ⟨(ad141.add ((x51_3).toNat * 8)).block, (ad141.add ((x51_3).toNat * 8)).off + 5, none⟩ = some (.bool ((rd_T46 t126 x51_3).f3.f2)) ∧ w'.cell? ⟨(ad141.add ((x51_3).toNat * 8)).block, (ad141.add ((x51_3).toNat * 8)).off + 6, none⟩ = some (.int .u8 ((rd_T46 t126 x51_3).f4)) ∧ w'.cell? ⟨(ad141.add ((x51_3).toNat * 8)).block, (ad141.add ((x51_3).toNat * 8)).off + 7, none⟩ = some (.bool ((rd_T46 t126 x51_3).f5)) ∧ w'.cell? (ad142.add ((x58_4).toNat * 8)) = some (.int .i64 ((rd_T46 t129 x58_4).f0)) ∧ w'.cell? ⟨(ad142.add ((x58_4).toNat * 8)).block, (ad142.add ((x58_4).toNat * 8)).off + 1, none⟩ = some (.slice A142_1 ((rd_T46 t129 x58_4).f1).length c142_1) ∧ w'.cell? ⟨(ad142.add ((x58_4).toNat * 8)).block, (ad142.add ((x58_4).toNat * 8)).off + 2, none⟩ = some (.slice A142_2 ((rd_T46 t129 x58_4).f2).length c142_2) ∧ w'.cell? ⟨(ad142.add ((x58_4).toNat * 8)).block, (ad142.add ((x58_4).toNat * 8)).off + 3, none⟩ = some (.int .u32 ((rd_T46 t129 x58_4).f3.f0)) ∧ w'.cell? ⟨(ad142.add ((x58_4).toNat * 8)).block, (ad142.add ((x58_4).toNat * 8)).off + 4, none⟩ = some (.int .u32 ((rd_T46 t129 x58_4).f3.f1)) ∧ w'.cell? ⟨(ad142.add ((x58_4).toNat * 8)).block, (ad142.add ((x58_4).toNat * 8)).off + 5, none⟩ = some (.bool ((rd_T46 t129 x58_4).f3.f2)) ∧ w'.cell? ⟨(ad142.add ((x58_4).toNat * 8)).block, (ad142.add ((x58_4).toNat * 8)).off + 6, none⟩ = some (.int .u8 ((rd_T46 t129 x58_4).f4)) ∧ w'.cell? ⟨(ad142.add ((x58_4).toNat * 8)).block, (ad142.add ((x58_4).toNat * 8)).off + 7, none⟩ = some (.bool ((rd_T46 t129 x58_4).f5))) (ds := []) #[false, false, false, false, false, false, false, false, false, false, false, false, false] (by kernel_rfl) rfl rfl ⟨(blk_cell BK137.out 0).trans rfl, (blk_cell BK137.out 1).trans rfl, (blk_cell BK137.out 2).trans rfl, (blk_cell BK137.out 3).trans rfl, (blk_cell BK137.out 4).trans rfl, (blk_cell BK137.out 5).trans rfl, (blk_cell BK137.out 6).trans rfl, (blk_cell BK137.out 7).trans rfl, (blk_cell BK139.out 0).trans rfl, (blk_cell BK139.out 1).trans rfl, (blk_cell BK139.out 2).trans rfl, (blk_cell BK139.out 3).trans rfl, (blk_cell BK139.out 4).trans rfl, (blk_cell BK139.out 5).trans rfl, (blk_cell BK139.out 6).trans rfl, (blk_cell BK139.out 7).trans rfl, hx141_0, hx141_1, hx141_2, hx141_3, hx141_4, hx141_5, hx141_6, hx141_7, hx142_0, hx142_1, hx142_2, hx142_3, hx142_4, hx142_5, hx142_6, hx142_7⟩ (fun hHeld => ?_); refine with_tabW trunnionlaw29_LinkMatches.tab16 trunnionlaw29_LinkMatches.bits16 (fun HT_ HW_ => ?_)
                                            generalize w51.drew = w52 at HO_5 HO_6 BK137 BK139 HB HL141_1 HL141_2 HL142_1 HL142_2 HR141_1 HR141_2 HR142_1 HR142_2 hx141_0 hx141_1 hx141_2 hx141_3 hx141_4 hx141_5 hx141_6 hx141_7 hx142_0 hx142_1 hx142_2 hx142_3 hx142_4 hx142_5 hx142_6 hx142_7 hHeld ⊢
                                            refine pure_ (i := 3) (N := some 66) (v := ?_) (a' := ?_) #[false, false, false, true, false, false, false, false, false, false, false, false, false] rfl rfl (any_of HT_.out (by kernel_rfl)) (fun _ _ _ h => h) (Or.inl ⟨by rfl, ?_⟩) ?_ ?_
                                            rotate_left
                                            · intro w'
                                              go_simp
                                              with_reducible rfl
                                            rotate_left
                                            · simp only [Act.put, List.setIfInBounds_toArray, List.set_cons_zero, List.set_cons_succ, i64_w, i32_w]
                                              rfl
                                            refine pure_ (i := 4) (N := some 67) (v := ?_) (a' := ?_) #[false, false, false, true, true, false, false, false, false, false, false, false, false] rfl rfl (any_of HT_.out (by kernel_rfl)) (fun _ _ _ h => h) (Or.inl ⟨by rfl, ?_⟩) ?_ ?_
                                            rotate_left
                                            · intro w'
                                              go_simp
                                              with_reducible rfl
                                            rotate_left
                                            · simp only [Act.put, List.setIfInBounds_toArray, List.set_cons_zero, List.set_cons_succ, i64_w, i32_w]
                                              rfl
                                            refine pure_ (i := 5) (N := some 68) (v := ?_) (a' := ?_) #[false, false, false, true, true, true, false, false, false, false, false, false, false] rfl rfl (any_of HT_.out (by kernel_rfl)) (fun _ _ _ h => h) (Or.inl ⟨by rfl, ?_⟩) ?_ ?_
                                            rotate_left
                                            · intro w'
                                              go_simp
                                              with_reducible rfl
                                            rotate_left
                                            · simp only [Act.put, List.setIfInBounds_toArray, List.set_cons_zero, List.set_cons_succ, i64_w, i32_w]
                                              rfl
                                            refine pure_ (i := 7) (N := some 70) (v := ?_) (a' := ?_) #[false, false, false, true, true, true, false, true, false, false, false, false, false] rfl rfl (any_of HT_.out (by kernel_rfl)) (fun _ _ _ h => h) (Or.inl ⟨by rfl, ?_⟩) ?_ ?_
                                            rotate_left
                                            · intro w'
                                              go_simp
                                              with_reducible rfl
                                            rotate_left
                                            · simp only [Act.put, List.setIfInBounds_toArray, List.set_cons_zero, List.set_cons_succ, i64_w, i32_w]
                                              rfl
                                            refine pure_ (i := 8) (N := some 71) (v := ?_) (a' := ?_) #[false, false, false, true, true, true, false, true, true, false, false, false, false] rfl rfl (any_of HT_.out (by kernel_rfl)) (fun _ _ _ h => h) (Or.inl ⟨by rfl, ?_⟩) ?_ ?_
                                            rotate_left
                                            · intro w'
                                              go_simp
                                              with_reducible rfl
                                            rotate_left
                                            · simp only [Act.put, List.setIfInBounds_toArray, List.set_cons_zero, List.set_cons_succ, i64_w, i32_w]
                                              rfl
                                            refine pure_ (i := 9) (N := some 72) (v := ?_) (a' := ?_) #[false, false, false, true, true, true, false, true, true, true, false, false, false] rfl rfl (any_of HT_.out (by kernel_rfl)) (fun _ _ _ h => h) (Or.inl ⟨by rfl, ?_⟩) ?_ ?_
                                            rotate_left
                                            · intro w'
                                              go_simp
                                              with_reducible rfl
                                            rotate_left
                                            · simp only [Act.put, List.setIfInBounds_toArray, List.set_cons_zero, List.set_cons_succ, i64_w, i32_w]
                                              rfl
                                            refine take_ (i := 0) (N := some 63) (v := ?_) (a' := ?_) #[true, false, false, true, true, true, false, true, true, true, false, false, false] rfl rfl (take_ofW HT_.out HW_.out (by kernel_rfl)) (fun _ _ _ h => h) (Or.inl ⟨by rfl, ?_⟩) hHeld ?_ ?_
                                            rotate_left
                                            · rintro w' ⟨s0, s1, s2, s3, s4, s5, s6, s7, s8, s9, s10, s11, s12, s13, s14, s15, s16, s17, s18, s19, s20, s21, s22, s23, s24, s25, s26, s27, s28, s29, s30, s31⟩
                                              go_simp
                                              with_reducible rfl
                                            rotate_left
                                            · simp only [Act.put, List.setIfInBounds_toArray, List.set_cons_zero, List.set_cons_succ, i64_w, i32_w]
                                              rfl
                                            refine take_ (i := 1) (N := some 64) (v := ?_) (a' := ?_) #[true, true, false, true, true, true, false, true, true, true, false, false, false] rfl rfl (take_ofW HT_.out HW_.out (by kernel_rfl)) (fun _ _ _ h => h) (Or.inl ⟨by rfl, ?_⟩) hHeld ?_ ?_
                                            rotate_left
                                            · rintro w' ⟨s0, s1, s2, s3, s4, s5, s6, s7, s8, s9, s10, s11, s12, s13, s14, s15, s16, s17, s18, s19, s20, s21, s22, s23, s24, s25, s26, s27, s28, s29, s30, s31⟩
                                              go_simp
                                              with_reducible rfl
                                            rotate_left
                                            · simp only [Act.put, List.setIfInBounds_toArray, List.set_cons_zero, List.set_cons_succ, i64_w, i32_w]
                                              rfl
                                            refine take_ (i := 6) (N := some 69) (v := ?_) (a' := ?_) #[true, true, false, true, true, true, true, true, true, true, false, false, false] rfl rfl (take_ofW HT_.out HW_.out (by kernel_rfl)) (fun _ _ _ h => h) (Or.inl ⟨by rfl, ?_⟩) hHeld ?_ ?_
                                            rotate_left
                                            · rintro w' ⟨s0, s1, s2, s3, s4, s5, s6, s7, s8, s9, s10, s11, s12, s13, s14, s15, s16, s17, s18, s19, s20, s21, s22, s23, s24, s25, s26, s27, s28, s29, s30, s31⟩
                                              go_simp
                                              with_reducible rfl
                                            rotate_left
                                            · simp only [Act.put, List.setIfInBounds_toArray, List.set_cons_zero, List.set_cons_succ, i64_w, i32_w]
                                              rfl
                                            refine take_ (i := 10) (N := some 73) (v := ?_) (a' := ?_) #[true, true, false, true, true, true, true, true, true, true, true, false, false] rfl rfl (take_ofW HT_.out HW_.out (by kernel_rfl)) (fun _ _ _ h => h) (Or.inl ⟨by rfl, ?_⟩) hHeld ?_ ?_
                                            rotate_left
                                            · rintro w' ⟨s0, s1, s2, s3, s4, s5, s6, s7, s8, s9, s10, s11, s12, s13, s14, s15, s16, s17, s18, s19, s20, s21, s22, s23, s24, s25, s26, s27, s28, s29, s30, s31⟩
                                              go_simp
                                              with_reducible rfl
                                            rotate_left
                                            · simp only [Act.put, List.setIfInBounds_toArray, List.set_cons_zero, List.set_cons_succ, i64_w, i32_w]
                                              rfl
                                            refine one_ (i := 2) (N := some 65) #[true, true, true, true, true, true, true, true, true, true, true, false, false] rfl rfl (one_of HT_.out (by kernel_rfl)) (by decide) (fun K hK => ?_)
                                            refine goes_ Try.func17 (by kernel_rfl) rfl #[.agg #[.int .i64 ((rd_T41 l0 x51_3).f0), .slice A136_1 ((rd_T41 l0 x51_3).f1.f0).length c136_1, .slice A136_2 ((rd_T41 l0 x51_3).f1.f1).length c136_2, .int .u32 ((rd_T41 l0 x51_3).f2.f0), .int .u32 ((rd_T41 l0 x51_3).f2.f1), .bool ((rd_T41 l0 x51_3).f2.f2), .int .u8 ((rd_T41 l0 x51_3).f3.f0), .bool ((rd_T41 l0 x51_3).f3.f1)], .agg #[.int .i64 ((rd_T41 l1 x58_4).f0), .slice A138_1 ((rd_T41 l1 x58_4).f1.f0).length c138_1, .slice A138_2 ((rd_T41 l1 x58_4).f1.f1).length c138_2, .int .u32 ((rd_T41 l1 x58_4).f2.f0), .int .u32 ((rd_T41 l1 x58_4).f2.f1), .bool ((rd_T41 l1 x58_4).f2.f2), .int .u8 ((rd_T41 l1 x58_4).f3.f0), .bool ((rd_T41 l1 x58_4).f3.f1)]] (by rfl) rfl rfl (by (try simp only [List.map_toArray, List.map_cons, List.map_nil]); first | done | rfl | (simp only [List.length_drop, List.length_take]; rfl)) ?_
                                            with_reducible refine (link_Match.calls ((rd_T41 l0 x51_3).f0) _ _ ((rd_T41 l0 x51_3).f1.f0) _ _ ((rd_T41 l0 x51_3).f1.f1) ((rd_T41 l0 x51_3).f2.f0) ((rd_T41 l0 x51_3).f2.f1) ((rd_T41 l0 x51_3).f2.f2) ((rd_T41 l0 x51_3).f3.f0) ((rd_T41 l0 x51_3).f3.f1) ((rd_T41 l1 x58_4).f0) _ _ ((rd_T41 l1 x58_4).f1.f0) _ _ ((rd_T41 l1 x58_4).f1.f1) ((rd_T41 l1 x58_4).f2.f0) ((rd_T41 l1 x58_4).f2.f1) ((rd_T41 l1 x58_4).f2.f2) ((rd_T41 l1 x58_4).f3.f0) ((rd_T41 l1 x58_4).f3.f1) t140 _ ?side1 ?side2 ?side3 ?side4 ?side5 ?side6 ?side7 ?side8 A35.out).mono ?_
                                            (case side1 => repeat (first | exact (Kd.C_below HR136_1.out HB.out) | (with_reducible refine Kd.C_alloc ?_ _) | (with_reducible refine Kd.C_drewN ?_ _) | (with_reducible refine Kd.C_drew ?_)))
                                            (case side2 => exact HC136_1.out)
                                            (case side3 => repeat (first | exact (Kd.C_below HR136_2.out HB.out) | (with_reducible refine Kd.C_alloc ?_ _) | (with_reducible refine Kd.C_drewN ?_ _) | (with_reducible refine Kd.C_drew ?_)))
                                            (case side4 => exact HC136_2.out)
                                            (case side5 => repeat (first | exact (Kd.C_below HR138_1.out HB.out) | (with_reducible refine Kd.C_alloc ?_ _) | (with_reducible refine Kd.C_drewN ?_ _) | (with_reducible refine Kd.C_drew ?_)))
                                            (case side6 => exact HC138_1.out)
                                            (case side7 => repeat (first | exact (Kd.C_below HR138_2.out HB.out) | (with_reducible refine Kd.C_alloc ?_ _) | (with_reducible refine Kd.C_drewN ?_ _) | (with_reducible refine Kd.C_drew ?_)))
                                            (case side8 => exact HC138_2.out)
                                            rintro e w53 ⟨rfl, hb⟩
                                            have HS16_ := (hb.cell (World.block_lt_of_cell? _ _ (hHeld.2.2.2.2.2.2.2.2.2.2.2.2.2.2.2.2.1))).trans (hHeld.2.2.2.2.2.2.2.2.2.2.2.2.2.2.2.2.1)
                                            have HS17_ := (hb.cell (World.block_lt_of_cell? _ _ (hHeld.2.2.2.2.2.2.2.2.2.2.2.2.2.2.2.2.2.1))).trans (hHeld.2.2.2.2.2.2.2.2.2.2.2.2.2.2.2.2.2.1)
                                            have HS18_ := (hb.cell (World.block_lt_of_cell? _ _ (hHeld.2.2.2.2.2.2.2.2.2.2.2.2.2.2.2.2.2.2.1))).trans (hHeld.2.2.2.2.2.2.2.2.2.2.2.2.2.2.2.2.2.2.1)
                                            have HS19_ := (hb.cell (World.block_lt_of_cell? _ _ (hHeld.2.2.2.2.2.2.2.2.2.2.2.2.2.2.2.2.2.2.2.1))).trans (hHeld.2.2.2.2.2.2.2.2.2.2.2.2.2.2.2.2.2.2.2.1)
                                            have HS20_ := (hb.cell (World.block_lt_of_cell? _ _ (hHeld.2.2.2.2.2.2.2.2.2.2.2.2.2.2.2.2.2.2.2.2.1))).trans (hHeld.2.2.2.2.2.2.2.2.2.2.2.2.2.2.2.2.2.2.2.2.1)
                                            have HS21_ := (hb.cell (World.block_lt_of_cell? _ _ (hHeld.2.2.2.2.2.2.2.2.2.2.2.2.2.2.2.2.2.2.2.2.2.1))).trans (hHeld.2.2.2.2.2.2.2.2.2.2.2.2.2.2.2.2.2.2.2.2.2.1)
                                            have HS22_ := (hb.cell (World.block_lt_of_cell? _ _ (hHeld.2.2.2.2.2.2.2.2.2.2.2.2.2.2.2.2.2.2.2.2.2.2.1))).trans (hHeld.2.2.2.2.2.2.2.2.2.2.2.2.2.2.2.2.2.2.2.2.2.2.1)
                                            have HS23_ := (hb.cell (World.block_lt_of_cell? _ _ (hHeld.2.2.2.2.2.2.2.2.2.2.2.2.2.2.2.2.2.2.2.2.2.2.2.1))).trans (hHeld.2.2.2.2.2.2.2.2.2.2.2.2.2.2.2.2.2.2.2.2.2.2.2.1)
                                            have HS24_ := (hb.cell (World.block_lt_of_cell? _ _ (hHeld.2.2.2.2.2.2.2.2.2.2.2.2.2.2.2.2.2.2.2.2.2.2.2.2.1))).trans (hHeld.2.2.2.2.2.2.2.2.2.2.2.2.2.2.2.2.2.2.2.2.2.2.2.2.1)
                                            have HS25_ := (hb.cell (World.block_lt_of_cell? _ _ (hHeld.2.2.2.2.2.2.2.2.2.2.2.2.2.2.2.2.2.2.2.2.2.2.2.2.2.1))).trans (hHeld.2.2.2.2.2.2.2.2.2.2.2.2.2.2.2.2.2.2.2.2.2.2.2.2.2.1)
                                            have HS26_ := (hb.cell (World.block_lt_of_cell? _ _ (hHeld.2.2.2.2.2.2.2.2.2.2.2.2.2.2.2.2.2.2.2.2.2.2.2.2.2.2.1))).trans (hHeld.2.2.2.2.2.2.2.2.2.2.2.2.2.2.2.2.2.2.2.2.2.2.2.2.2.2.1)
                                            have HS27_ := (hb.cell (World.block_lt_of_cell? _ _ (hHeld.2.2.2.2.2.2.2.2.2.2.2.2.2.2.2.2.2.2.2.2.2.2.2.2.2.2.2.1))).trans (hHeld.2.2.2.2.2.2.2.2.2.2.2.2.2.2.2.2.2.2.2.2.2.2.2.2.2.2.2.1)
                                            have HS28_ := (hb.cell (World.block_lt_of_cell? _ _ (hHeld.2.2.2.2.2.2.2.2.2.2.2.2.2.2.2.2.2.2.2.2.2.2.2.2.2.2.2.2.1))).trans (hHeld.2.2.2.2.2.2.2.2.2.2.2.2.2.2.2.2.2.2.2.2.2.2.2.2.2.2.2.2.1)
                                            have HS29_ := (hb.cell (World.block_lt_of_cell? _ _ (hHeld.2.2.2.2.2.2.2.2.2.2.2.2.2.2.2.2.2.2.2.2.2.2.2.2.2.2.2.2.2.1))).trans (hHeld.2.2.2.2.2.2.2.2.2.2.2.2.2.2.2.2.2.2.2.2.2.2.2.2.2.2.2.2.2.1)
                                            have HS30_ := (hb.cell (World.block_lt_of_cell? _ _ (hHeld.2.2.2.2.2.2.2.2.2.2.2.2.2.2.2.2.2.2.2.2.2.2.2.2.2.2.2.2.2.2.1))).trans (hHeld.2.2.2.2.2.2.2.2.2.2.2.2.2.2.2.2.2.2.2.2.2.2.2.2.2.2.2.2.2.2.1)
                                            have HS31_ := (hb.cell (World.block_lt_of_cell? _ _ (hHeld.2.2.2.2.2.2.2.2.2.2.2.2.2.2.2.2.2.2.2.2.2.2.2.2.2.2.2.2.2.2.2))).trans (hHeld.2.2.2.2.2.2.2.2.2.2.2.2.2.2.2.2.2.2.2.2.2.2.2.2.2.2.2.2.2.2.2)
                                            refine ⟨_, rfl, ?_⟩
                                            have n0_ := Aside0.mk (Kd.N_below (by (with_reducible repeat (first | apply Kd.N_alloc | apply Kd.N_drewN | apply Kd.N_drew)); exact HO_5.out) hb)
                                            have n1_ := Aside0.mk (Kd.N_below (by (with_reducible repeat (first | apply Kd.N_alloc | apply Kd.N_drewN | apply Kd.N_drew)); exact HO_6.out) hb)
                                            have n2_ := Aside0.mk (Kd.V_below (by (with_reducible repeat (first | apply Kd.V_alloc | apply Kd.V_drewN | apply Kd.V_drew)); exact HL141_1.out) hb)
                                            have n3_ := Aside0.mk (Kd.V_below (by (with_reducible repeat (first | apply Kd.V_alloc | apply Kd.V_drewN | apply Kd.V_drew)); exact HL141_2.out) hb)
                                            have n4_ := Aside0.mk (Kd.V_below (by (with_reducible repeat (first | apply Kd.V_alloc | apply Kd.V_drewN | apply Kd.V_drew)); exact HL142_1.out) hb)
                                            have n5_ := Aside0.mk (Kd.V_below (by (with_reducible repeat (first | apply Kd.V_alloc | apply Kd.V_drewN | apply Kd.V_drew)); exact HL142_2.out) hb)
                                            have n6_ := Aside0.mk (blk_below (g := gb137) (o := .cells #[.int .i64 ((rd_T41 l0 x51_3).f0), .slice A136_1 ((rd_T41 l0 x51_3).f1.f0).length c136_1, .slice A136_2 ((rd_T41 l0 x51_3).f1.f1).length c136_2, .int .u32 ((rd_T41 l0 x51_3).f2.f0), .int .u32 ((rd_T41 l0 x51_3).f2.f1), .bool ((rd_T41 l0 x51_3).f2.f2), .int .u8 ((rd_T41 l0 x51_3).f3.f0), .bool ((rd_T41 l0 x51_3).f3.f1)] 41 (0, 0)) (by (with_reducible repeat (first | refine blk_drewN ?_ _ | refine blk_drew ?_ | refine blk_alloc ?_ _)); exact BK137.out) hb)
                                            have n7_ := Aside0.mk (blk_below (g := gb139) (o := .cells #[.int .i64 ((rd_T41 l1 x58_4).f0), .slice A138_1 ((rd_T41 l1 x58_4).f1.f0).length c138_1, .slice A138_2 ((rd_T41 l1 x58_4).f1.f1).length c138_2, .int .u32 ((rd_T41 l1 x58_4).f2.f0), .int .u32 ((rd_T41 l1 x58_4).f2.f1), .bool ((rd_T41 l1 x58_4).f2.f2), .int .u8 ((rd_T41 l1 x58_4).f3.f0), .bool ((rd_T41 l1 x58_4).f3.f1)] 41 (0, 0)) (by (with_reducible repeat (first | refine blk_drewN ?_ _ | refine blk_drew ?_ | refine blk_alloc ?_ _)); exact BK139.out) hb)
                                            have n8_ := Aside0.mk (Kd.C_below (by repeat (first | (with_reducible exact HR141_1.out) | (with_reducible refine Kd.C_alloc ?_ _) | (with_reducible refine Kd.C_drewN ?_ _) | (with_reducible refine Kd.C_drew ?_) | exact HR141_1.out)) hb)
                                            have n9_ := Aside0.mk (Kd.C_below (by repeat (first | (with_reducible exact HR141_2.out) | (with_reducible refine Kd.C_alloc ?_ _) | (with_reducible refine Kd.C_drewN ?_ _) | (with_reducible refine Kd.C_drew ?_) | exact HR141_2.out)) hb)
                                            have n10_ := Aside0.mk (Kd.C_below (by repeat (first | (with_reducible exact HR142_1.out) | (with_reducible refine Kd.C_alloc ?_ _) | (with_reducible refine Kd.C_drewN ?_ _) | (with_reducible refine Kd.C_drew ?_) | exact HR142_1.out)) hb)
                                            have n11_ := Aside0.mk (Kd.C_below (by repeat (first | (with_reducible exact HR142_2.out) | (with_reducible refine Kd.C_alloc ?_ _) | (with_reducible refine Kd.C_drewN ?_ _) | (with_reducible refine Kd.C_drew ?_) | exact HR142_2.out)) hb)
                                            have n12_ := Aside0.mk (below_step (by repeat (first | (with_reducible first | exact HB.out | apply below_alloc | apply pw_below_drewN | apply below_drew1 | refine below_set ?_ GE137.out | refine below_set ?_ GE139.out) | exact HB.out)) hb)
                                            clear HO_5
                                            clear HO_6
                                            clear HL141_1
                                            clear HL141_2
                                            clear HL142_1
                                            clear HL142_2
                                            clear BK137
                                            clear BK139
                                            clear HR141_1
                                            clear HR141_2
                                            clear HR142_1
                                            clear HR142_2
                                            clear HB
                                            have HO_5 := n0_
                                            have HO_6 := n1_
                                            have HL141_1 := n2_
                                            have HL141_2 := n3_
                                            have HL142_1 := n4_
                                            have HL142_2 := n5_
                                            have BK137 := n6_
                                            have BK139 := n7_
                                            have HR141_1 := n8_
                                            have HR141_2 := n9_
                                            have HR142_1 := n10_
                                            have HR142_2 := n11_
                                            have HB := n12_
                                            clear n0_ n1_ n2_ n3_ n4_ n5_ n6_ n7_ n8_ n9_ n10_ n11_ n12_
                                            (try clear hb)
                                            (try clear hb2)
                                            (try clear hk)
                                            (try clear hi)
                                            refine hK.out _ _ ⟨(blk_cell BK137.out 0).trans rfl, (blk_cell BK137.out 1).trans rfl, (blk_cell BK137.out 2).trans rfl, (blk_cell BK137.out 3).trans rfl, (blk_cell BK137.out 4).trans rfl, (blk_cell BK137.out 5).trans rfl, (blk_cell BK137.out 6).trans rfl, (blk_cell BK137.out 7).trans rfl, (blk_cell BK139.out 0).trans rfl, (blk_cell BK139.out 1).trans rfl, (blk_cell BK139.out 2).trans rfl, (blk_cell BK139.out 3).trans rfl, (blk_cell BK139.out 4).trans rfl, (blk_cell BK139.out 5).trans rfl, (blk_cell BK139.out 6).trans rfl, (blk_cell BK139.out 7).trans rfl, HS16_, HS17_, HS18_, HS19_, HS20_, HS21_, HS22_, HS23_, HS24_, HS25_, HS26_, HS27_, HS28_, HS29_, HS30_, HS31_⟩ (fun hHeld => ?_)
                                            clear hK K
                                            refine norm_ (a' := ?_) ?_ ?_
                                            rotate_left
                                            · show Act.put _ (some 65) _ = _
                                              simp only [Act.put, List.setIfInBounds_toArray, List.set_cons_zero, List.set_cons_succ, i64_w, i32_w]
                                              rfl
                                            refine one_ (i := 11) (N := some 74) #[true, true, true, true, true, true, true, true, true, true, true, true, false] rfl rfl (one_of HT_.out (by kernel_rfl)) (by decide) (fun K hK => ?_)
                                            refine goes_ Try.func18 (by kernel_rfl) rfl #[.agg #[.int .i64 ((rd_T46 t126 x51_3).f0), .slice A141_1 ((rd_T46 t126 x51_3).f1).length c141_1, .slice A141_2 ((rd_T46 t126 x51_3).f2).length c141_2, .int .u32 ((rd_T46 t126 x51_3).f3.f0), .int .u32 ((rd_T46 t126 x51_3).f3.f1), .bool ((rd_T46 t126 x51_3).f3.f2), .int .u8 ((rd_T46 t126 x51_3).f4), .bool ((rd_T46 t126 x51_3).f5)], .agg #[.int .i64 ((rd_T46 t129 x58_4).f0), .slice A142_1 ((rd_T46 t129 x58_4).f1).length c142_1, .slice A142_2 ((rd_T46 t129 x58_4).f2).length c142_2, .int .u32 ((rd_T46 t129 x58_4).f3.f0), .int .u32 ((rd_T46 t129 x58_4).f3.f1), .bool ((rd_T46 t129 x58_4).f3.f2), .int .u8 ((rd_T46 t129 x58_4).f4), .bool ((rd_T46 t129 x58_4).f5)]] (by rfl) rfl rfl (by (try simp only [List.map_toArray, List.map_cons, List.map_nil]); first | done | rfl | (simp only [List.length_drop, List.length_take]; rfl)) ?_
                                            with_reducible refine (trunnionref29_Match.calls ((rd_T46 t126 x51_3).f0) _ _ ((rd_T46 t126 x51_3).f1) _ _ ((rd_T46 t126 x51_3).f2) ((rd_T46 t126 x51_3).f3.f0) ((rd_T46 t126 x51_3).f3.f1) ((rd_T46 t126 x51_3).f3.f2) ((rd_T46 t126 x51_3).f4) ((rd_T46 t126 x51_3).f5) ((rd_T46 t129 x58_4).f0) _ _ ((rd_T46 t129 x58_4).f1) _ _ ((rd_T46 t129 x58_4).f2) ((rd_T46 t129 x58_4).f3.f0) ((rd_T46 t129 x58_4).f3.f1) ((rd_T46 t129 x58_4).f3.f2) ((rd_T46 t129 x58_4).f4) ((rd_T46 t129 x58_4).f5) t143 _ ?side1 ?side2 ?side3 ?side4 ?side5 ?side6 ?side7 ?side8 A39.out).mono ?_
                                            (case side1 => repeat (first | exact (by repeat (first | (with_reducible exact HR141_1.out) | (with_reducible refine Kd.C_alloc ?_ _) | (with_reducible refine Kd.C_drewN ?_ _) | (with_reducible refine Kd.C_drew ?_) | exact HR141_1.out)) | (with_reducible refine Kd.C_alloc ?_ _) | (with_reducible refine Kd.C_drewN ?_ _) | (with_reducible refine Kd.C_drew ?_)))
                                            (case side2 => exact HC141_1.out)
                                            (case side3 => repeat (first | exact (by repeat (first | (with_reducible exact HR141_2.out) | (with_reducible refine Kd.C_alloc ?_ _) | (with_reducible refine Kd.C_drewN ?_ _) | (with_reducible refine Kd.C_drew ?_) | exact HR141_2.out)) | (with_reducible refine Kd.C_alloc ?_ _) | (with_reducible refine Kd.C_drewN ?_ _) | (with_reducible refine Kd.C_drew ?_)))
                                            (case side4 => exact HC141_2.out)
                                            (case side5 => repeat (first | exact (by repeat (first | (with_reducible exact HR142_1.out) | (with_reducible refine Kd.C_alloc ?_ _) | (with_reducible refine Kd.C_drewN ?_ _) | (with_reducible refine Kd.C_drew ?_) | exact HR142_1.out)) | (with_reducible refine Kd.C_alloc ?_ _) | (with_reducible refine Kd.C_drewN ?_ _) | (with_reducible refine Kd.C_drew ?_)))
                                            (case side6 => exact HC142_1.out)
                                            (case side7 => repeat (first | exact (by repeat (first | (with_reducible exact HR142_2.out) | (with_reducible refine Kd.C_alloc ?_ _) | (with_reducible refine Kd.C_drewN ?_ _) | (with_reducible refine Kd.C_drew ?_) | exact HR142_2.out)) | (with_reducible refine Kd.C_alloc ?_ _) | (with_reducible refine Kd.C_drewN ?_ _) | (with_reducible refine Kd.C_drew ?_)))
                                            (case side8 => exact HC142_2.out)
                                            rintro e w54 ⟨rfl, hb⟩
                                            have HS16_ := (hb.cell (World.block_lt_of_cell? _ _ (hHeld.2.2.2.2.2.2.2.2.2.2.2.2.2.2.2.2.1))).trans (hHeld.2.2.2.2.2.2.2.2.2.2.2.2.2.2.2.2.1)
                                            have HS17_ := (hb.cell (World.block_lt_of_cell? _ _ (hHeld.2.2.2.2.2.2.2.2.2.2.2.2.2.2.2.2.2.1))).trans (hHeld.2.2.2.2.2.2.2.2.2.2.2.2.2.2.2.2.2.1)
                                            have HS18_ := (hb.cell (World.block_lt_of_cell? _ _ (hHeld.2.2.2.2.2.2.2.2.2.2.2.2.2.2.2.2.2.2.1))).trans (hHeld.2.2.2.2.2.2.2.2.2.2.2.2.2.2.2.2.2.2.1)
                                            have HS19_ := (hb.cell (World.block_lt_of_cell? _ _ (hHeld.2.2.2.2.2.2.2.2.2.2.2.2.2.2.2.2.2.2.2.1))).trans (hHeld.2.2.2.2.2.2.2.2.2.2.2.2.2.2.2.2.2.2.2.1)
                                            have HS20_ := (hb.cell (World.block_lt_of_cell? _ _ (hHeld.2.2.2.2.2.2.2.2.2.2.2.2.2.2.2.2.2.2.2.2.1))).trans (hHeld.2.2.2.2.2.2.2.2.2.2.2.2.2.2.2.2.2.2.2.2.1)
                                            have HS21_ := (hb.cell (World.block_lt_of_cell? _ _ (hHeld.2.2.2.2.2.2.2.2.2.2.2.2.2.2.2.2.2.2.2.2.2.1))).trans (hHeld.2.2.2.2.2.2.2.2.2.2.2.2.2.2.2.2.2.2.2.2.2.1)
                                            have HS22_ := (hb.cell (World.block_lt_of_cell? _ _ (hHeld.2.2.2.2.2.2.2.2.2.2.2.2.2.2.2.2.2.2.2.2.2.2.1))).trans (hHeld.2.2.2.2.2.2.2.2.2.2.2.2.2.2.2.2.2.2.2.2.2.2.1)
                                            have HS23_ := (hb.cell (World.block_lt_of_cell? _ _ (hHeld.2.2.2.2.2.2.2.2.2.2.2.2.2.2.2.2.2.2.2.2.2.2.2.1))).trans (hHeld.2.2.2.2.2.2.2.2.2.2.2.2.2.2.2.2.2.2.2.2.2.2.2.1)
                                            have HS24_ := (hb.cell (World.block_lt_of_cell? _ _ (hHeld.2.2.2.2.2.2.2.2.2.2.2.2.2.2.2.2.2.2.2.2.2.2.2.2.1))).trans (hHeld.2.2.2.2.2.2.2.2.2.2.2.2.2.2.2.2.2.2.2.2.2.2.2.2.1)
                                            have HS25_ := (hb.cell (World.block_lt_of_cell? _ _ (hHeld.2.2.2.2.2.2.2.2.2.2.2.2.2.2.2.2.2.2.2.2.2.2.2.2.2.1))).trans (hHeld.2.2.2.2.2.2.2.2.2.2.2.2.2.2.2.2.2.2.2.2.2.2.2.2.2.1)
                                            have HS26_ := (hb.cell (World.block_lt_of_cell? _ _ (hHeld.2.2.2.2.2.2.2.2.2.2.2.2.2.2.2.2.2.2.2.2.2.2.2.2.2.2.1))).trans (hHeld.2.2.2.2.2.2.2.2.2.2.2.2.2.2.2.2.2.2.2.2.2.2.2.2.2.2.1)
                                            have HS27_ := (hb.cell (World.block_lt_of_cell? _ _ (hHeld.2.2.2.2.2.2.2.2.2.2.2.2.2.2.2.2.2.2.2.2.2.2.2.2.2.2.2.1))).trans (hHeld.2.2.2.2.2.2.2.2.2.2.2.2.2.2.2.2.2.2.2.2.2.2.2.2.2.2.2.1)
                                            have HS28_ := (hb.cell (World.block_lt_of_cell? _ _ (hHeld.2.2.2.2.2.2.2.2.2.2.2.2.2.2.2.2.2.2.2.2.2.2.2.2.2.2.2.2.1))).trans (hHeld.2.2.2.2.2.2.2.2.2.2.2.2.2.2.2.2.2.2.2.2.2.2.2.2.2.2.2.2.1)
                                            have HS29_ := (hb.cell (World.block_lt_of_cell? _ _ (hHeld.2.2.2.2.2.2.2.2.2.2.2.2.2.2.2.2.2.2.2.2.2.2.2.2.2.2.2.2.2.1))).trans (hHeld.2.2.2.2.2.2.2.2.2.2.2.2.2.2.2.2.2.2.2.2.2.2.2.2.2.2.2.2.2.1)
                                            have HS30_ := (hb.cell (World.block_lt_of_cell? _ _ (hHeld.2.2.2.2.2.2.2.2.2.2.2.2.2.2.2.2.2.2.2.2.2.2.2.2.2.2.2.2.2.2.1))).trans (hHeld.2.2.2.2.2.2.2.2.2.2.2.2.2.2.2.2.2.2.2.2.2.2.2.2.2.2.2.2.2.2.1)
                                            have HS31_ := (hb.cell (World.block_lt_of_cell? _ _ (hHeld.2.2.2.2.2.2.2.2.2.2.2.2.2.2.2.2.2.2.2.2.2.2.2.2.2.2.2.2.2.2.2))).trans (hHeld.2.2.2.2.2.2.2.2.2.2.2.2.2.2.2.2.2.2.2.2.2.2.2.2.2.2.2.2.2.2.2)
                                            refine ⟨_, rfl, ?_⟩
                                            have n0_ := Aside0.mk (Kd.N_below (by (with_reducible repeat (first | apply Kd.N_alloc | apply Kd.N_drewN | apply Kd.N_drew)); exact HO_5.out) hb)
                                            have n1_ := Aside0.mk (Kd.N_below (by (with_reducible repeat (first | apply Kd.N_alloc | apply Kd.N_drewN | apply Kd.N_drew)); exact HO_6.out) hb)
                                            have n2_ := Aside0.mk (Kd.V_below (by (with_reducible repeat (first | apply Kd.V_alloc | apply Kd.V_drewN | apply Kd.V_drew)); exact HL141_1.out) hb)
                                            have n3_ := Aside0.mk (Kd.V_below (by (with_reducible repeat (first | apply Kd.V_alloc | apply Kd.V_drewN | apply Kd.V_drew)); exact HL141_2.out) hb)
                                            have n4_ := Aside0.mk (Kd.V_below (by (with_reducible repeat (first | apply Kd.V_alloc | apply Kd.V_drewN | apply Kd.V_drew)); exact HL142_1.out) hb)
                                            have n5_ := Aside0.mk (Kd.V_below (by (with_reducible repeat (first | apply Kd.V_alloc | apply Kd.V_drewN | apply Kd.V_drew)); exact HL142_2.out) hb)
                                            have n6_ := Aside0.mk (blk_below (g := gb137) (o := .cells #[.int .i64 ((rd_T41 l0 x51_3).f0), .slice A136_1 ((rd_T41 l0 x51_3).f1.f0).length c136_1, .slice A136_2 ((rd_T41 l0 x51_3).f1.f1).length c136_2, .int .u32 ((rd_T41 l0 x51_3).f2.f0), .int .u32 ((rd_T41 l0 x51_3).f2.f1), .bool ((rd_T41 l0 x51_3).f2.f2), .int .u8 ((rd_T41 l0 x51_3).f3.f0), .bool ((rd_T41 l0 x51_3).f3.f1)] 41 (0, 0)) (by (with_reducible repeat (first | refine blk_drewN ?_ _ | refine blk_drew ?_ | refine blk_alloc ?_ _)); exact BK137.out) hb)
                                            have n7_ := Aside0.mk (blk_below (g := gb139) (o := .cells #[.int .i64 ((rd_T41 l1 x58_4).f0), .slice A138_1 ((rd_T41 l1 x58_4).f1.f0).length c138_1, .slice A138_2 ((rd_T41 l1 x58_4).f1.f1).length c138_2, .int .u32 ((rd_T41 l1 x58_4).f2.f0), .int .u32 ((rd_T41 l1 x58_4).f2.f1), .bool ((rd_T41 l1 x58_4).f2.f2), .int .u8 ((rd_T41 l1 x58_4).f3.f0), .bool ((rd_T41 l1 x58_4).f3.f1)] 41 (0, 0)) (by (with_reducible repeat (first | refine blk_drewN ?_ _ | refine blk_drew ?_ | refine blk_alloc ?_ _)); exact BK139.out) hb)
                                            have n8_ := Aside0.mk (Kd.C_below (by repeat (first | (with_reducible exact HR141_1.out) | (with_reducible refine Kd.C_alloc ?_ _) | (with_reducible refine Kd.C_drewN ?_ _) | (with_reducible refine Kd.C_drew ?_) | exact HR141_1.out)) hb)
                                            have n9_ := Aside0.mk (Kd.C_below (by repeat (first | (with_reducible exact HR141_2.out) | (with_reducible refine Kd.C_alloc ?_ _) | (with_reducible refine Kd.C_drewN ?_ _) | (with_reducible refine Kd.C_drew ?_) | exact HR141_2.out)) hb)
                                            have n10_ := Aside0.mk (Kd.C_below (by repeat (first | (with_reducible exact HR142_1.out) | (with_reducible refine Kd.C_alloc ?_ _) | (with_reducible refine Kd.C_drewN ?_ _) | (with_reducible refine Kd.C_drew ?_) | exact HR142_1.out)) hb)
                                            have n11_ := Aside0.mk (Kd.C_below (by repeat (first | (with_reducible exact HR142_2.out) | (with_reducible refine Kd.C_alloc ?_ _) | (with_reducible refine Kd.C_drewN ?_ _) | (with_reducible refine Kd.C_drew ?_) | exact HR142_2.out)) hb)
                                            have n12_ := Aside0.mk (below_step (by repeat (first | (with_reducible first | exact HB.out | apply below_alloc | apply pw_below_drewN | apply below_drew1 | refine below_set ?_ GE137.out | refine below_set ?_ GE139.out) | exact HB.out)) hb)
                                            clear HO_5
                                            clear HO_6
                                            clear HL141_1
                                            clear HL141_2
                                            clear HL142_1
                                            clear HL142_2
                                            clear BK137
                                            clear BK139
                                            clear HR141_1
                                            clear HR141_2
                                            clear HR142_1
                                            clear HR142_2
                                            clear HB
                                            have HO_5 := n0_
                                            have HO_6 := n1_
                                            have HL141_1 := n2_
                                            have HL141_2 := n3_
                                            have HL142_1 := n4_
                                            have HL142_2 := n5_
                                            have BK137 := n6_
                                            have BK139 := n7_
                                            have HR141_1 := n8_
                                            have HR141_2 := n9_
                                            have HR142_1 := n10_
                                            have HR142_2 := n11_
                                            have HB := n12_
                                            clear n0_ n1_ n2_ n3_ n4_ n5_ n6_ n7_ n8_ n9_ n10_ n11_ n12_
                                            (try clear hb)
                                            (try clear hb2)
                                            (try clear hk)
                                            (try clear hi)
                                            refine hK.out _ _ ⟨(blk_cell BK137.out 0).trans rfl, (blk_cell BK137.out 1).trans rfl, (blk_cell BK137.out 2).trans rfl, (blk_cell BK137.out 3).trans rfl, (blk_cell BK137.out 4).trans rfl, (blk_cell BK137.out 5).trans rfl, (blk_cell BK137.out 6).trans rfl, (blk_cell BK137.out 7).trans rfl, (blk_cell BK139.out 0).trans rfl, (blk_cell BK139.out 1).trans rfl, (blk_cell BK139.out 2).trans rfl, (blk_cell BK139.out 3).trans rfl, (blk_cell BK139.out 4).trans rfl, (blk_cell BK139.out 5).trans rfl, (blk_cell BK139.out 6).trans rfl, (blk_cell BK139.out 7).trans rfl, HS16_, HS17_, HS18_, HS19_, HS20_, HS21_, HS22_, HS23_, HS24_, HS25_, HS26_, HS27_, HS28_, HS29_, HS30_, HS31_⟩ (fun hHeld => ?_)
                                            clear hK K
                                            refine norm_ (a' := ?_) ?_ ?_
                                            rotate_left
                                            · show Act.put _ (some 74) _ = _
                                              simp only [Act.put, List.setIfInBounds_toArray, List.set_cons_zero, List.set_cons_succ, i64_w, i32_w]
                                              rfl
                                            refine pure_ (i := 12) (N := some 75) (v := ?_) (a' := ?_) #[true, true, true, true, true, true, true, true, true, true, true, true, true] rfl rfl (any_of HT_.out (by kernel_rfl)) (fun _ _ _ h => h) (Or.inl ⟨by rfl, ?_⟩) ?_ ?_
                                            rotate_left
                                            · intro w'
                                              go_simp
                                              with_reducible rfl
                                            rotate_left
                                            · simp only [Act.put, List.setIfInBounds_toArray, List.set_cons_zero, List.set_cons_succ, i64_w, i32_w]
                                              rfl
                                            refine done_ (done_of HT_.out (by kernel_rfl)) ?_
                                            try go_wp2
                                            go_roundg k4
                                            case measure => have := HJ4.out; have := HJ17.out; have := HK3.out; have := HK4.out; omega
                                            case rel => exact ⟨(wrap64 (x58_4 + 1)), (by first | rfl | (simp; done) | (simp [*]; done)), H', ⟨by have := HJ4.out; have := HJ17.out; have := HK3.out; have := HK4.out; omega⟩, ⟨by (with_reducible repeat (first | apply Kd.N_alloc | apply Kd.N_drewN | apply Kd.N_drew)); exact Kd.N_mono HO_5.out (fun _ hk => ⟨hk.1, hk.2.1⟩)⟩, ⟨by (with_reducible repeat (first | apply Kd.N_alloc | apply Kd.N_drewN | apply Kd.N_drew)); exact Kd.N_mono HO_6.out (fun _ hk => ⟨hk.1, hk.2.1⟩)⟩, ⟨by (with_reducible repeat (first | refine blk_drewN ?_ _ | refine blk_drew ?_ | refine blk_alloc ?_ _)); exact BK137.out⟩, ⟨by repeat (first | (with_reducible first | exact HB.out | apply below_alloc | apply pw_below_drewN | apply below_drew1 | refine below_set ?_ GE137.out | refine below_set ?_ GE139.out) | exact HB.out)⟩⟩
                                        · rw [if_neg c38] at H
                                          exact absurd H (by simp)
                                      · rw [if_neg c37] at H
                                        exact absurd H (by simp)
                                    · rw [if_neg c36] at H
                                      exact absurd H (by simp)
                                  · rw [if_neg c34] at H
                                    exact absurd H (by simp)
                                · rw [if_neg c33] at H
                                  exact absurd H (by simp)
                              · rw [if_neg c32] at H
                                have c32b0 : decide (x58_4 < (l1.length : Int)) = false := decide_eq_false c32
                                clear c32
                                have H' := Aside0.mk H
                                clear H
                                go_wp2
                                go_roundg k4
                                case measure => have := HJ4.out; have := HJ17.out; have := HK3.out; have := HK4.out; omega
                                case rel => exact ⟨(wrap64 (x51_3 + 1)), (by first | rfl | (simp; done) | (simp [*]; done)), H', ⟨by have := HJ4.out; have := HJ17.out; have := HK3.out; have := HK4.out; omega⟩, ⟨by (with_reducible repeat (first | apply Kd.N_alloc | apply Kd.N_drewN | apply Kd.N_drew)); exact Kd.N_mono HO_5.out (fun _ hk => hk.1)⟩, ⟨by (with_reducible repeat (first | apply Kd.N_alloc | apply Kd.N_drewN | apply Kd.N_drew)); exact Kd.N_mono HO_6.out (fun _ hk => hk.1)⟩, ⟨by repeat (first | (with_reducible first | exact HB.out | apply below_alloc | apply pw_below_drewN | apply below_drew1 | refine below_set ?_ GE137.out) | exact HB.out)⟩⟩
                        · rw [if_neg c29] at H
                          exact absurd H (by simp)
                      · rw [if_neg c28] at H
                        exact absurd H (by simp)
                    · rw [if_neg c27] at H
                      have c27b0 : decide (x51_3 < (l0.length : Int)) = false := decide_eq_false c27
                      clear c27
                      obtain rfl := Option.some.inj H
                      go_wp2
                      go_ret
                      exact ⟨by first | rfl | (simp [errW_none, errW_some] <;> rfl) | (simp [*, errW_none, errW_some] <;> rfl), by repeat (first | (with_reducible first | exact HB.out | apply below_alloc | apply pw_below_drewN | apply below_drew1) | exact HB.out)⟩
  · replace c4 := Bool.eq_false_iff.mpr c4
    subst c4
    have H1 : (some false) = some r := by rw [if_neg (show ¬ (false = true) by decide)] at H; exact H
    clear H
    have H := H1
    clear H1
    obtain rfl := Option.some.inj H
    go_enter Try.func3, Try.ntmps3
    go_wp2_with (first | ((with_reducible refine gate_callee (f := 12) rfl ?_); refine goesL_ (some 15) rfl rfl Try.func12 (by kernel_rfl) rfl #[] rfl (by (try simp only [List.map_toArray, List.map_cons, List.map_nil]); first | done | rfl | (simp only [List.length_drop, List.length_take]; rfl)) ?_; (with_reducible refine (trunnionlaw29_awake.calls  false _ A3.out).mono ?_); rintro e w55 ⟨rfl, hb⟩; refine ⟨_, rfl, ?_⟩; have n0_ := Aside0.mk (below_step (by repeat (first | (with_reducible first | exact HB.out | apply below_alloc | apply pw_below_drewN | apply below_drew1) | exact HB.out)) hb); clear HB; have HB := n0_; clear n0_; (try clear hb); (try clear hb2); (try clear hk); (try clear hi)))
    go_ret
    exact ⟨by first | rfl | (simp [errW_none, errW_some] <;> rfl) | (simp [*, errW_none, errW_some] <;> rfl), by repeat (first | (with_reducible first | exact HB.out | apply below_alloc | apply pw_below_drewN | apply below_drew1) | exact HB.out)⟩

end Go.Proofs.Ytkpjdkmggbelfaa.Q29
