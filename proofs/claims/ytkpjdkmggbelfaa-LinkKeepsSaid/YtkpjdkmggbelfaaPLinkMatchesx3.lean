-- PRINTED BY print.sh 35421559b90ae4d0a3588c463048766b98c2df88dd9212a6774a882060cdf62d: not written by this session
import Derived.Test.YtkpjdkmggbelfaaPLinkMatchesx0
namespace Go.Proofs.Ytkpjdkmggbelfaa.PLinkMatches
open Go.RowKit Go.Proofs.YtkpjdkmggbelfaaW.PrintWords Go.Proofs.YtkpjdkmggbelfaaW.PrintLast Go.Proofs.YtkpjdkmggbelfaaW.PrintMore
attribute [local go_sem] max2_int min2_int max_two min_two max_three min_three max_four min_four   -- for this text's walks alone
set_option linter.unusedVariables false
set_option linter.unusedSimpArgs false

/-! ### trunnionref29_Match: function 18 -/
def trunnionref29_Match.j0 : Nat → Bool → Int → List Int → List Int → Int → Int → Bool → Int → Bool → Int → List Int → List Int → Int → Int → Bool → Int → Bool → Option (Bool)
  | 0, _, _, _, _, _, _, _, _, _, _, _, _, _, _, _, _, _ => none
  | k + 1, x19, x118000, x118001, x118002, x118003, x118004, x118005, x118006, x118007, x119000, x119001, x119002, x119003, x119004, x119005, x119006, x119007 => if x19 = true then (some false) else (if x118000 = 0 then (if (strOfNums x118001).toList = (strOfNums x119001).toList then (some ((strOfNums x118002).toList == (strOfNums x119002).toList)) else (some false)) else (if x118000 = 3 then (if x118006 = x119006 then (some (x118007 == x119007)) else (some false)) else (if x119003 < x118003 then (some false) else (if x118005 = true then (if x119005 = true then (some (decide (x119004 ≤ x118004))) else (some false)) else (some true)))))
def trunnionref29_Match.f (k : Nat) (a0_0 : Int) (l0_1 : List Int) (l0_2 : List Int) (a0_3 : Int) (a0_4 : Int) (a0_5 : Bool) (a0_6 : Int) (a0_7 : Bool) (a1_0 : Int) (l1_1 : List Int) (l1_2 : List Int) (a1_3 : Int) (a1_4 : Int) (a1_5 : Bool) (a1_6 : Int) (a1_7 : Bool) : Option (Bool) := if a0_0 = a1_0 then (if a0_0 < 0 then (trunnionref29_Match.j0 k true a0_0 l0_1 l0_2 a0_3 a0_4 a0_5 a0_6 a0_7 a1_0 l1_1 l1_2 a1_3 a1_4 a1_5 a1_6 a1_7) else (trunnionref29_Match.j0 k (decide (a0_0 > 3)) a0_0 l0_1 l0_2 a0_3 a0_4 a0_5 a0_6 a0_7 a1_0 l1_1 l1_2 a1_3 a1_4 a1_5 a1_6 a1_7)) else (trunnionref29_Match.j0 k true a0_0 l0_1 l0_2 a0_3 a0_4 a0_5 a0_6 a0_7 a1_0 l1_1 l1_2 a1_3 a1_4 a1_5 a1_6 a1_7)
theorem trunnionref29_Match.mono_l : ∀ k, (∀ y0 y1 y2 y3 y4 y5 y6 y7 y8 y9 y10 y11 y12 y13 y14 y15 y16, LeO (trunnionref29_Match.j0 k y0 y1 y2 y3 y4 y5 y6 y7 y8 y9 y10 y11 y12 y13 y14 y15 y16) (trunnionref29_Match.j0 (k + 1) y0 y1 y2 y3 y4 y5 y6 y7 y8 y9 y10 y11 y12 y13 y14 y15 y16))
  | 0 => fun _ _ _ _ _ _ _ _ _ _ _ _ _ _ _ _ _ r h => by simp [trunnionref29_Match.j0] at h
  | k + 1 => by
    have ih0 := trunnionref29_Match.mono_l k
    · intro y0 y1 y2 y3 y4 y5 y6 y7 y8 y9 y10 y11 y12 y13 y14 y15 y16
      unfold trunnionref29_Match.j0
      repeat' first
      | (with_reducible exact ih0 _ _ _ _ _ _ _ _ _ _ _ _ _ _ _ _ _)
      | (with_reducible exact LeO.refl _)
      | (with_reducible exact LeO.none _)
      | (with_reducible refine LeO.ite ?_ ?_)
      | (with_reducible refine LeO.bind ?_ (fun _ => ?_))
      | exact ih0 _ _ _ _ _ _ _ _ _ _ _ _ _ _ _ _ _
      | exact LeO.none _
      | refine LeO.ite ?_ ?_
      | refine LeO.bind ?_ (fun _ => ?_)
theorem trunnionref29_Match.mono : ∀ a0 a1 a2 a3 a4 a5 a6 a7 a8 a9 a10 a11 a12 a13 a14 a15 k, LeO (trunnionref29_Match.f k a0 a1 a2 a3 a4 a5 a6 a7 a8 a9 a10 a11 a12 a13 a14 a15) (trunnionref29_Match.f (k + 1) a0 a1 a2 a3 a4 a5 a6 a7 a8 a9 a10 a11 a12 a13 a14 a15) := by
  intro a0 a1 a2 a3 a4 a5 a6 a7 a8 a9 a10 a11 a12 a13 a14 a15 k
  have ih0 := trunnionref29_Match.mono_l k
  unfold trunnionref29_Match.f
  repeat' first
      | (with_reducible exact ih0 _ _ _ _ _ _ _ _ _ _ _ _ _ _ _ _ _)
      | (with_reducible exact LeO.refl _)
      | (with_reducible exact LeO.none _)
      | (with_reducible refine LeO.ite ?_ ?_)
      | (with_reducible refine LeO.bind ?_ (fun _ => ?_))
      | exact ih0 _ _ _ _ _ _ _ _ _ _ _ _ _ _ _ _ _
      | exact LeO.none _
      | refine LeO.ite ?_ ?_
      | refine LeO.bind ?_ (fun _ => ?_)
set_option maxHeartbeats 8000000 in
set_option maxRecDepth 100000 in
theorem trunnionref29_Match.calls (k : Nat) (a0_0 : Int) (A0_1 : Option Addr) (c0_1 : Nat) (l0_1 : List Int) (A0_2 : Option Addr) (c0_2 : Nat) (l0_2 : List Int) (a0_3 : Int) (a0_4 : Int) (a0_5 : Bool) (a0_6 : Int) (a0_7 : Bool) (a1_0 : Int) (A1_1 : Option Addr) (c1_1 : Nat) (l1_1 : List Int) (A1_2 : Option Addr) (c1_2 : Nat) (l1_2 : List Int) (a1_3 : Int) (a1_4 : Int) (a1_5 : Bool) (a1_6 : Int) (a1_7 : Bool) (r : Bool) (w : World) (hr0_1 : Kd.C (Kd.int .u8) w A0_1 l0_1.length l0_1) (hc0_1 : l0_1.length ≤ c0_1) (hr0_2 : Kd.C (Kd.int .u8) w A0_2 l0_2.length l0_2) (hc0_2 : l0_2.length ≤ c0_2) (hr1_1 : Kd.C (Kd.int .u8) w A1_1 l1_1.length l1_1) (hc1_1 : l1_1.length ≤ c1_1) (hr1_2 : Kd.C (Kd.int .u8) w A1_2 l1_2.length l1_2) (hc1_2 : l1_2.length ≤ c1_2) (h : trunnionref29_Match.f k a0_0 l0_1 l0_2 a0_3 a0_4 a0_5 a0_6 a0_7 a1_0 l1_1 l1_2 a1_3 a1_4 a1_5 a1_6 a1_7 = some r) :
    Calls Try.prog 18 #[.agg #[.int .i64 a0_0, .slice A0_1 l0_1.length c0_1, .slice A0_2 l0_2.length c0_2, .int .u32 a0_3, .int .u32 a0_4, .bool a0_5, .int .u8 a0_6, .bool a0_7], .agg #[.int .i64 a1_0, .slice A1_1 l1_1.length c1_1, .slice A1_2 l1_2.length c1_2, .int .u32 a1_3, .int .u32 a1_4, .bool a1_5, .int .u8 a1_6, .bool a1_7]] w fun e w' => e = .returned (.bool r) ∧ Below w.heap.size w w' := by
  have hu46 := Try.underlying46
  have HR0_1 := Aside0.mk hr0_1
  have HC0_1 := Aside0.mk hc0_1
  clear hr0_1 hc0_1
  have HR0_2 := Aside0.mk hr0_2
  have HC0_2 := Aside0.mk hc0_2
  clear hr0_2 hc0_2
  have HR1_1 := Aside0.mk hr1_1
  have HC1_1 := Aside0.mk hc1_1
  clear hr1_1 hc1_1
  have HR1_2 := Aside0.mk hr1_2
  have HC1_2 := Aside0.mk hc1_2
  clear hr1_2 hc1_2
  have HB := Aside0.mk (Below.refl w.heap.size w)
  have H : (if a0_0 = a1_0 then (if a0_0 < 0 then (trunnionref29_Match.j0 k true a0_0 l0_1 l0_2 a0_3 a0_4 a0_5 a0_6 a0_7 a1_0 l1_1 l1_2 a1_3 a1_4 a1_5 a1_6 a1_7) else (trunnionref29_Match.j0 k (decide (a0_0 > 3)) a0_0 l0_1 l0_2 a0_3 a0_4 a0_5 a0_6 a0_7 a1_0 l1_1 l1_2 a1_3 a1_4 a1_5 a1_6 a1_7)) else (trunnionref29_Match.j0 k true a0_0 l0_1 l0_2 a0_3 a0_4 a0_5 a0_6 a0_7 a1_0 l1_1 l1_2 a1_3 a1_4 a1_5 a1_6 a1_7)) = some r := h
  clear h
  have HC3 := Aside0.mk H
  clear H
  go_enter Try.func18, Try.ntmps18
  go_upto_region 1 with (first | ((with_reducible refine gate_dst (N := 2) rfl ?_); refine box_event ?hg (N := 2) ?hd (cs := #[.int .i64 a0_0, .slice A0_1 l0_1.length c0_1, .slice A0_2 l0_2.length c0_2, .int .u32 a0_3, .int .u32 a0_4, .bool a0_5, .int .u8 a0_6, .bool a0_7]) (t := 46) ?hr ?_; (case hd => rfl); (case hg => rfl); (case hr => first | (go_simp; done) | (go_simp; rfl)); intro gb117 hg w4 hbox hb; have n0_ := Aside0.mk (below_step (by repeat (first | (with_reducible first | exact HB.out | apply below_alloc | apply pw_below_drewN | apply below_drew1) | exact HB.out)) hb); have n1_ := Aside0.mk (hbox); have n2_ := Aside0.mk ((by rw [hg]; exact (below_size (by repeat (first | (with_reducible first | exact HB.out | apply below_alloc | apply pw_below_drewN | apply below_drew1) | exact HB.out))) : w.heap.size ≤ gb117)); have n3_ := Aside0.mk ((by rw [hg]; exact (below_size (by repeat (first | (with_reducible first | exact HB.out | apply below_alloc | apply pw_below_drewN | apply below_drew1) | exact HB.out))) : w.heap.size ≤ gb117)); clear HB; have HB := n0_; have BK117 := n1_; have GW117 := n2_; have GE117 := n3_; clear n0_ n1_ n2_ n3_; clear hb hbox hg) | ((with_reducible refine gate_dst (N := 3) rfl ?_); refine box_event ?hg (N := 3) ?hd (cs := #[.int .i64 a1_0, .slice A1_1 l1_1.length c1_1, .slice A1_2 l1_2.length c1_2, .int .u32 a1_3, .int .u32 a1_4, .bool a1_5, .int .u8 a1_6, .bool a1_7]) (t := 46) ?hr ?_; (case hd => rfl); (case hg => rfl); (case hr => first | (go_simp; done) | (go_simp; rfl)); intro gb118 hg w5 hbox hb; have n0_ := Aside0.mk (blk_below (g := gb117) (o := .cells #[.int .i64 a0_0, .slice A0_1 l0_1.length c0_1, .slice A0_2 l0_2.length c0_2, .int .u32 a0_3, .int .u32 a0_4, .bool a0_5, .int .u8 a0_6, .bool a0_7] 46 (0, 0)) (by (with_reducible repeat (first | refine blk_drewN ?_ _ | refine blk_drew ?_ | refine blk_alloc ?_ _)); exact BK117.out) hb); have n1_ := Aside0.mk (below_step (by repeat (first | (with_reducible first | exact HB.out | apply below_alloc | apply pw_below_drewN | apply below_drew1 | refine below_set ?_ GE117.out) | exact HB.out)) hb); have n2_ := Aside0.mk (hbox); have n3_ := Aside0.mk ((by rw [hg]; exact (below_size (by repeat (first | (with_reducible first | exact HB.out | apply below_alloc | apply pw_below_drewN | apply below_drew1 | refine below_set ?_ GE117.out) | exact HB.out))) : w.heap.size ≤ gb118)); have n4_ := Aside0.mk ((by rw [hg]; exact (below_size (by repeat (first | (with_reducible first | exact HB.out | apply below_alloc | apply pw_below_drewN | apply below_drew1 | refine below_set ?_ GE117.out) | exact HB.out))) : w.heap.size ≤ gb118)); have n5_ := Aside0.mk ((by rw [hg]; exact Nat.ne_of_lt (blk_lt (g := gb117) (o := .cells #[.int .i64 a0_0, .slice A0_1 l0_1.length c0_1, .slice A0_2 l0_2.length c0_2, .int .u32 a0_3, .int .u32 a0_4, .bool a0_5, .int .u8 a0_6, .bool a0_7] 46 (0, 0)) (by (with_reducible repeat (first | refine blk_drewN ?_ _ | refine blk_drew ?_ | refine blk_alloc ?_ _)); exact BK117.out)) : gb117 ≠ gb118)); have n6_ := Aside0.mk ((by rw [hg]; exact Nat.ne_of_gt (blk_lt (g := gb117) (o := .cells #[.int .i64 a0_0, .slice A0_1 l0_1.length c0_1, .slice A0_2 l0_2.length c0_2, .int .u32 a0_3, .int .u32 a0_4, .bool a0_5, .int .u8 a0_6, .bool a0_7] 46 (0, 0)) (by (with_reducible repeat (first | refine blk_drewN ?_ _ | refine blk_drew ?_ | refine blk_alloc ?_ _)); exact BK117.out)) : gb118 ≠ gb117)); clear BK117; clear HB; have BK117 := n0_; have HB := n1_; have BK118 := n2_; have GW118 := n3_; have GE118 := n4_; have NB117_118 := n5_; have NB118_117 := n6_; clear n0_ n1_ n2_ n3_ n4_ n5_ n6_; clear hb hbox hg))
  (try simp only [Act.put, List.setIfInBounds_toArray, List.set_cons_zero, List.set_cons_succ])
  go_cut [19] (fun v19 wc => ∃ (kq : Nat) (x19_2 : Bool), v19 = .bool x19_2 ∧ Aside0 (trunnionref29_Match.j0 kq x19_2 a0_0 l0_1 l0_2 a0_3 a0_4 a0_5 a0_6 a0_7 a1_0 l1_1 l1_2 a1_3 a1_4 a1_5 a1_6 a1_7 = some r) ∧ Aside0 (kq ≤ k) ∧ Aside0 (wc.heap[gb117]? = some (.cells #[.int .i64 a0_0, (.slice A0_1 l0_1.length c0_1), (.slice A0_2 l0_2.length c0_2), .int .u32 a0_3, .int .u32 a0_4, .bool a0_5, .int .u8 a0_6, .bool a0_7] 46 (0, 0))) ∧ Aside0 (wc.heap[gb118]? = some (.cells #[.int .i64 a1_0, (.slice A1_1 l1_1.length c1_1), (.slice A1_2 l1_2.length c1_2), .int .u32 a1_3, .int .u32 a1_4, .bool a1_5, .int .u8 a1_6, .bool a1_7] 46 (0, 0))) ∧ Aside0 (Below w.heap.size w wc))
  case first =>
    have H := HC3.out
    clear HC3
    by_cases c6 : a0_0 = a1_0
    · rw [if_pos c6] at H
      have c6b0 : (a0_0 == a1_0) = true := beq_iff_eq.mpr c6
      have c6b1 : (a0_0 != a1_0) = false := bne_eq_false_iff_eq.mpr c6
      clear c6
      (first | rw [c6b0] | (simp only [i64_w, i32_w]; rw [c6b0]) | skip)
      by_cases c7 : a0_0 < 0
      · rw [if_pos c7] at H
        have c7b0 : decide (a0_0 < 0) = true := decide_eq_true c7
        clear c7
        have H' := Aside0.mk H
        clear H
        have hnb8 := NB117_118.out
        have hnc8 := NB118_117.out
        have hcz9_0 : w5.cell? ⟨gb117, 0, none⟩ = some (.int .i64 a0_0) := (blk_cell BK117.out 0).trans rfl
        have hcz9_1 : w5.cell? ⟨gb117, 1, none⟩ = some (.slice A0_1 l0_1.length c0_1) := (blk_cell BK117.out 1).trans rfl
        have hcz9_2 : w5.cell? ⟨gb117, 2, none⟩ = some (.slice A0_2 l0_2.length c0_2) := (blk_cell BK117.out 2).trans rfl
        have hcz9_3 : w5.cell? ⟨gb117, 3, none⟩ = some (.int .u32 a0_3) := (blk_cell BK117.out 3).trans rfl
        have hcz9_4 : w5.cell? ⟨gb117, 4, none⟩ = some (.int .u32 a0_4) := (blk_cell BK117.out 4).trans rfl
        have hcz9_5 : w5.cell? ⟨gb117, 5, none⟩ = some (.bool a0_5) := (blk_cell BK117.out 5).trans rfl
        have hcz9_6 : w5.cell? ⟨gb117, 6, none⟩ = some (.int .u8 a0_6) := (blk_cell BK117.out 6).trans rfl
        have hcz9_7 : w5.cell? ⟨gb117, 7, none⟩ = some (.bool a0_7) := (blk_cell BK117.out 7).trans rfl
        have hfz9_0 := blk_frozen BK117.out 0
        have hfz9_1 := blk_frozen BK117.out 1
        have hfz9_2 := blk_frozen BK117.out 2
        have hfz9_3 := blk_frozen BK117.out 3
        have hfz9_4 := blk_frozen BK117.out 4
        have hfz9_5 := blk_frozen BK117.out 5
        have hfz9_6 := blk_frozen BK117.out 6
        have hfz9_7 := blk_frozen BK117.out 7
        have hcz10_0 : w5.cell? ⟨gb118, 0, none⟩ = some (.int .i64 a1_0) := (blk_cell BK118.out 0).trans rfl
        have hcz10_1 : w5.cell? ⟨gb118, 1, none⟩ = some (.slice A1_1 l1_1.length c1_1) := (blk_cell BK118.out 1).trans rfl
        have hcz10_2 : w5.cell? ⟨gb118, 2, none⟩ = some (.slice A1_2 l1_2.length c1_2) := (blk_cell BK118.out 2).trans rfl
        have hcz10_3 : w5.cell? ⟨gb118, 3, none⟩ = some (.int .u32 a1_3) := (blk_cell BK118.out 3).trans rfl
        have hcz10_4 : w5.cell? ⟨gb118, 4, none⟩ = some (.int .u32 a1_4) := (blk_cell BK118.out 4).trans rfl
        have hcz10_5 : w5.cell? ⟨gb118, 5, none⟩ = some (.bool a1_5) := (blk_cell BK118.out 5).trans rfl
        have hcz10_6 : w5.cell? ⟨gb118, 6, none⟩ = some (.int .u8 a1_6) := (blk_cell BK118.out 6).trans rfl
        have hcz10_7 : w5.cell? ⟨gb118, 7, none⟩ = some (.bool a1_7) := (blk_cell BK118.out 7).trans rfl
        have hfz10_0 := blk_frozen BK118.out 0
        have hfz10_1 := blk_frozen BK118.out 1
        have hfz10_2 := blk_frozen BK118.out 2
        have hfz10_3 := blk_frozen BK118.out 3
        have hfz10_4 := blk_frozen BK118.out 4
        have hfz10_5 := blk_frozen BK118.out 5
        have hfz10_6 := blk_frozen BK118.out 6
        have hfz10_7 := blk_frozen BK118.out 7
        go_wp2
        go_meet
        case rel => exact ⟨_, (true), (by first | rfl | (simp; done) | (simp [*]; done)), H', ⟨by first | omega | exact Nat.le_refl _⟩, ⟨by (with_reducible repeat (first | refine blk_drewN ?_ _ | refine blk_drew ?_ | refine blk_alloc ?_ _)); exact BK117.out⟩, ⟨by (with_reducible repeat (first | refine blk_drewN ?_ _ | refine blk_drew ?_ | refine blk_alloc ?_ _)); exact BK118.out⟩, ⟨by repeat (first | (with_reducible first | exact HB.out | apply below_alloc | apply pw_below_drewN | apply below_drew1 | refine below_set ?_ GE117.out | refine below_set ?_ GE118.out) | exact HB.out)⟩⟩
      · rw [if_neg c7] at H
        have c7b0 : decide (a0_0 < 0) = false := decide_eq_false c7
        clear c7
        have H' := Aside0.mk H
        clear H
        have hnb11 := NB117_118.out
        have hnc11 := NB118_117.out
        have hcz12_0 : w5.cell? ⟨gb117, 0, none⟩ = some (.int .i64 a0_0) := (blk_cell BK117.out 0).trans rfl
        have hcz12_1 : w5.cell? ⟨gb117, 1, none⟩ = some (.slice A0_1 l0_1.length c0_1) := (blk_cell BK117.out 1).trans rfl
        have hcz12_2 : w5.cell? ⟨gb117, 2, none⟩ = some (.slice A0_2 l0_2.length c0_2) := (blk_cell BK117.out 2).trans rfl
        have hcz12_3 : w5.cell? ⟨gb117, 3, none⟩ = some (.int .u32 a0_3) := (blk_cell BK117.out 3).trans rfl
        have hcz12_4 : w5.cell? ⟨gb117, 4, none⟩ = some (.int .u32 a0_4) := (blk_cell BK117.out 4).trans rfl
        have hcz12_5 : w5.cell? ⟨gb117, 5, none⟩ = some (.bool a0_5) := (blk_cell BK117.out 5).trans rfl
        have hcz12_6 : w5.cell? ⟨gb117, 6, none⟩ = some (.int .u8 a0_6) := (blk_cell BK117.out 6).trans rfl
        have hcz12_7 : w5.cell? ⟨gb117, 7, none⟩ = some (.bool a0_7) := (blk_cell BK117.out 7).trans rfl
        have hfz12_0 := blk_frozen BK117.out 0
        have hfz12_1 := blk_frozen BK117.out 1
        have hfz12_2 := blk_frozen BK117.out 2
        have hfz12_3 := blk_frozen BK117.out 3
        have hfz12_4 := blk_frozen BK117.out 4
        have hfz12_5 := blk_frozen BK117.out 5
        have hfz12_6 := blk_frozen BK117.out 6
        have hfz12_7 := blk_frozen BK117.out 7
        have hcz13_0 : w5.cell? ⟨gb118, 0, none⟩ = some (.int .i64 a1_0) := (blk_cell BK118.out 0).trans rfl
        have hcz13_1 : w5.cell? ⟨gb118, 1, none⟩ = some (.slice A1_1 l1_1.length c1_1) := (blk_cell BK118.out 1).trans rfl
        have hcz13_2 : w5.cell? ⟨gb118, 2, none⟩ = some (.slice A1_2 l1_2.length c1_2) := (blk_cell BK118.out 2).trans rfl
        have hcz13_3 : w5.cell? ⟨gb118, 3, none⟩ = some (.int .u32 a1_3) := (blk_cell BK118.out 3).trans rfl
        have hcz13_4 : w5.cell? ⟨gb118, 4, none⟩ = some (.int .u32 a1_4) := (blk_cell BK118.out 4).trans rfl
        have hcz13_5 : w5.cell? ⟨gb118, 5, none⟩ = some (.bool a1_5) := (blk_cell BK118.out 5).trans rfl
        have hcz13_6 : w5.cell? ⟨gb118, 6, none⟩ = some (.int .u8 a1_6) := (blk_cell BK118.out 6).trans rfl
        have hcz13_7 : w5.cell? ⟨gb118, 7, none⟩ = some (.bool a1_7) := (blk_cell BK118.out 7).trans rfl
        have hfz13_0 := blk_frozen BK118.out 0
        have hfz13_1 := blk_frozen BK118.out 1
        have hfz13_2 := blk_frozen BK118.out 2
        have hfz13_3 := blk_frozen BK118.out 3
        have hfz13_4 := blk_frozen BK118.out 4
        have hfz13_5 := blk_frozen BK118.out 5
        have hfz13_6 := blk_frozen BK118.out 6
        have hfz13_7 := blk_frozen BK118.out 7
        go_wp2
        go_meet
        case rel => exact ⟨_, (decide (a0_0 > 3)), (by first | rfl | (simp; done) | (simp [*]; done)), H', ⟨by first | omega | exact Nat.le_refl _⟩, ⟨by (with_reducible repeat (first | refine blk_drewN ?_ _ | refine blk_drew ?_ | refine blk_alloc ?_ _)); exact BK117.out⟩, ⟨by (with_reducible repeat (first | refine blk_drewN ?_ _ | refine blk_drew ?_ | refine blk_alloc ?_ _)); exact BK118.out⟩, ⟨by repeat (first | (with_reducible first | exact HB.out | apply below_alloc | apply pw_below_drewN | apply below_drew1 | refine below_set ?_ GE117.out | refine below_set ?_ GE118.out) | exact HB.out)⟩⟩
    · rw [if_neg c6] at H
      have c6b0 : (a0_0 == a1_0) = false := beq_eq_false_iff_ne.mpr c6
      have c6b1 : (a0_0 != a1_0) = true := bne_iff_ne.mpr c6
      (first | rw [c6b0] | (simp only [i64_w, i32_w]; rw [c6b0]) | skip)
      have H' := Aside0.mk H
      clear H
      have hnb14 := NB117_118.out
      have hnc14 := NB118_117.out
      have hcz15_0 : w5.cell? ⟨gb117, 0, none⟩ = some (.int .i64 a0_0) := (blk_cell BK117.out 0).trans rfl
      have hcz15_1 : w5.cell? ⟨gb117, 1, none⟩ = some (.slice A0_1 l0_1.length c0_1) := (blk_cell BK117.out 1).trans rfl
      have hcz15_2 : w5.cell? ⟨gb117, 2, none⟩ = some (.slice A0_2 l0_2.length c0_2) := (blk_cell BK117.out 2).trans rfl
      have hcz15_3 : w5.cell? ⟨gb117, 3, none⟩ = some (.int .u32 a0_3) := (blk_cell BK117.out 3).trans rfl
      have hcz15_4 : w5.cell? ⟨gb117, 4, none⟩ = some (.int .u32 a0_4) := (blk_cell BK117.out 4).trans rfl
      have hcz15_5 : w5.cell? ⟨gb117, 5, none⟩ = some (.bool a0_5) := (blk_cell BK117.out 5).trans rfl
      have hcz15_6 : w5.cell? ⟨gb117, 6, none⟩ = some (.int .u8 a0_6) := (blk_cell BK117.out 6).trans rfl
      have hcz15_7 : w5.cell? ⟨gb117, 7, none⟩ = some (.bool a0_7) := (blk_cell BK117.out 7).trans rfl
      have hfz15_0 := blk_frozen BK117.out 0
      have hfz15_1 := blk_frozen BK117.out 1
      have hfz15_2 := blk_frozen BK117.out 2
      have hfz15_3 := blk_frozen BK117.out 3
      have hfz15_4 := blk_frozen BK117.out 4
      have hfz15_5 := blk_frozen BK117.out 5
      have hfz15_6 := blk_frozen BK117.out 6
      have hfz15_7 := blk_frozen BK117.out 7
      have hcz16_0 : w5.cell? ⟨gb118, 0, none⟩ = some (.int .i64 a1_0) := (blk_cell BK118.out 0).trans rfl
      have hcz16_1 : w5.cell? ⟨gb118, 1, none⟩ = some (.slice A1_1 l1_1.length c1_1) := (blk_cell BK118.out 1).trans rfl
      have hcz16_2 : w5.cell? ⟨gb118, 2, none⟩ = some (.slice A1_2 l1_2.length c1_2) := (blk_cell BK118.out 2).trans rfl
      have hcz16_3 : w5.cell? ⟨gb118, 3, none⟩ = some (.int .u32 a1_3) := (blk_cell BK118.out 3).trans rfl
      have hcz16_4 : w5.cell? ⟨gb118, 4, none⟩ = some (.int .u32 a1_4) := (blk_cell BK118.out 4).trans rfl
      have hcz16_5 : w5.cell? ⟨gb118, 5, none⟩ = some (.bool a1_5) := (blk_cell BK118.out 5).trans rfl
      have hcz16_6 : w5.cell? ⟨gb118, 6, none⟩ = some (.int .u8 a1_6) := (blk_cell BK118.out 6).trans rfl
      have hcz16_7 : w5.cell? ⟨gb118, 7, none⟩ = some (.bool a1_7) := (blk_cell BK118.out 7).trans rfl
      have hfz16_0 := blk_frozen BK118.out 0
      have hfz16_1 := blk_frozen BK118.out 1
      have hfz16_2 := blk_frozen BK118.out 2
      have hfz16_3 := blk_frozen BK118.out 3
      have hfz16_4 := blk_frozen BK118.out 4
      have hfz16_5 := blk_frozen BK118.out 5
      have hfz16_6 := blk_frozen BK118.out 6
      have hfz16_7 := blk_frozen BK118.out 7
      go_wp2
      go_meet
      case rel => exact ⟨_, (true), (by first | rfl | (simp; done) | (simp [*]; done)), H', ⟨by first | omega | exact Nat.le_refl _⟩, ⟨by (with_reducible repeat (first | refine blk_drewN ?_ _ | refine blk_drew ?_ | refine blk_alloc ?_ _)); exact BK117.out⟩, ⟨by (with_reducible repeat (first | refine blk_drewN ?_ _ | refine blk_drew ?_ | refine blk_alloc ?_ _)); exact BK118.out⟩, ⟨by repeat (first | (with_reducible first | exact HB.out | apply below_alloc | apply pw_below_drewN | apply below_drew1 | refine below_set ?_ GE117.out | refine below_set ?_ GE118.out) | exact HB.out)⟩⟩
  case rest =>
    clear HC3
    try clear c1
    try clear p2
    try clear c6
    try clear c6b0
    try clear c6b1
    try clear c7
    try clear c7b0
    try clear c8
    try clear c11
    try clear c14
    try clear hcz10_0
    try clear hcz10_1
    try clear hcz10_2
    try clear hcz10_3
    try clear hcz10_4
    try clear hcz10_5
    try clear hcz10_6
    try clear hcz10_7
    try clear hcz12_0
    try clear hcz12_1
    try clear hcz12_2
    try clear hcz12_3
    try clear hcz12_4
    try clear hcz12_5
    try clear hcz12_6
    try clear hcz12_7
    try clear hcz13_0
    try clear hcz13_1
    try clear hcz13_2
    try clear hcz13_3
    try clear hcz13_4
    try clear hcz13_5
    try clear hcz13_6
    try clear hcz13_7
    try clear hcz15_0
    try clear hcz15_1
    try clear hcz15_2
    try clear hcz15_3
    try clear hcz15_4
    try clear hcz15_5
    try clear hcz15_6
    try clear hcz15_7
    try clear hcz16_0
    try clear hcz16_1
    try clear hcz16_2
    try clear hcz16_3
    try clear hcz16_4
    try clear hcz16_5
    try clear hcz16_6
    try clear hcz16_7
    try clear hcz9_0
    try clear hcz9_1
    try clear hcz9_2
    try clear hcz9_3
    try clear hcz9_4
    try clear hcz9_5
    try clear hcz9_6
    try clear hcz9_7
    try clear hfz10_0
    try clear hfz10_1
    try clear hfz10_2
    try clear hfz10_3
    try clear hfz10_4
    try clear hfz10_5
    try clear hfz10_6
    try clear hfz10_7
    try clear hfz12_0
    try clear hfz12_1
    try clear hfz12_2
    try clear hfz12_3
    try clear hfz12_4
    try clear hfz12_5
    try clear hfz12_6
    try clear hfz12_7
    try clear hfz13_0
    try clear hfz13_1
    try clear hfz13_2
    try clear hfz13_3
    try clear hfz13_4
    try clear hfz13_5
    try clear hfz13_6
    try clear hfz13_7
    try clear hfz15_0
    try clear hfz15_1
    try clear hfz15_2
    try clear hfz15_3
    try clear hfz15_4
    try clear hfz15_5
    try clear hfz15_6
    try clear hfz15_7
    try clear hfz16_0
    try clear hfz16_1
    try clear hfz16_2
    try clear hfz16_3
    try clear hfz16_4
    try clear hfz16_5
    try clear hfz16_6
    try clear hfz16_7
    try clear hfz9_0
    try clear hfz9_1
    try clear hfz9_2
    try clear hfz9_3
    try clear hfz9_4
    try clear hfz9_5
    try clear hfz9_6
    try clear hfz9_7
    obtain ⟨kq, x19_2, rfl, HA, HJ2, BK117, BK118, HB⟩ := hcut
    cases kq with
    | zero => exact absurd HA.out (by simp [trunnionref29_Match.j0])
    | succ kj2 =>
      have H := HA.out
      clear HA
      simp only [trunnionref29_Match.j0] at H
      by_cases c17 : x19_2 = true
      · subst c17
        have H1 : (some false) = some r := by rw [if_pos rfl] at H; exact H
        clear H
        have H := H1
        clear H1
        obtain rfl := Option.some.inj H
        go_wp2
        go_ret
        exact ⟨by first | rfl | (simp [errW_none, errW_some] <;> rfl) | (simp [*, errW_none, errW_some] <;> rfl), by repeat (first | (with_reducible first | exact HB.out | apply below_alloc | apply pw_below_drewN | apply below_drew1 | refine below_set ?_ GE117.out | refine below_set ?_ GE118.out) | exact HB.out)⟩
      · replace c17 := Bool.eq_false_iff.mpr c17
        subst c17
        have H1 : (if a0_0 = 0 then (if (strOfNums l0_1).toList = (strOfNums l1_1).toList then (some ((strOfNums l0_2).toList == (strOfNums l1_2).toList)) else (some false)) else (if a0_0 = 3 then (if a0_6 = a1_6 then (some (a0_7 == a1_7)) else (some false)) else (if a1_3 < a0_3 then (some false) else (if a0_5 = true then (if a1_5 = true then (some (decide (a1_4 ≤ a0_4))) else (some false)) else (some true))))) = some r := by rw [if_neg (show ¬ (false = true) by decide)] at H; exact H
        clear H
        have H := H1
        clear H1
        by_cases c18 : a0_0 = 0
        · rw [if_pos c18] at H
          have c18b0 : (a0_0 == 0) = true := beq_iff_eq.mpr c18
          have c18b1 : (a0_0 != 0) = false := bne_eq_false_iff_eq.mpr c18
          clear c18
          by_cases c19 : (strOfNums l0_1).toList = (strOfNums l1_1).toList
          · rw [if_pos c19] at H
            have c19b0 : ((strOfNums l0_1).toList == (strOfNums l1_1).toList) = true := beq_iff_eq.mpr c19
            have c19b1 : ((strOfNums l0_1).toList != (strOfNums l1_1).toList) = false := bne_eq_false_iff_eq.mpr c19
            clear c19
            obtain rfl := Option.some.inj H
            have hnb20 := NB117_118.out
            have hnc20 := NB118_117.out
            have hcz21_0 : wc.cell? ⟨gb117, 0, none⟩ = some (.int .i64 a0_0) := (blk_cell BK117.out 0).trans rfl
            have hcz21_1 : wc.cell? ⟨gb117, 1, none⟩ = some (.slice A0_1 l0_1.length c0_1) := (blk_cell BK117.out 1).trans rfl
            have hcz21_2 : wc.cell? ⟨gb117, 2, none⟩ = some (.slice A0_2 l0_2.length c0_2) := (blk_cell BK117.out 2).trans rfl
            have hcz21_3 : wc.cell? ⟨gb117, 3, none⟩ = some (.int .u32 a0_3) := (blk_cell BK117.out 3).trans rfl
            have hcz21_4 : wc.cell? ⟨gb117, 4, none⟩ = some (.int .u32 a0_4) := (blk_cell BK117.out 4).trans rfl
            have hcz21_5 : wc.cell? ⟨gb117, 5, none⟩ = some (.bool a0_5) := (blk_cell BK117.out 5).trans rfl
            have hcz21_6 : wc.cell? ⟨gb117, 6, none⟩ = some (.int .u8 a0_6) := (blk_cell BK117.out 6).trans rfl
            have hcz21_7 : wc.cell? ⟨gb117, 7, none⟩ = some (.bool a0_7) := (blk_cell BK117.out 7).trans rfl
            have hfz21_0 := blk_frozen BK117.out 0
            have hfz21_1 := blk_frozen BK117.out 1
            have hfz21_2 := blk_frozen BK117.out 2
            have hfz21_3 := blk_frozen BK117.out 3
            have hfz21_4 := blk_frozen BK117.out 4
            have hfz21_5 := blk_frozen BK117.out 5
            have hfz21_6 := blk_frozen BK117.out 6
            have hfz21_7 := blk_frozen BK117.out 7
            have hcv22 := Kd.C_string (P := Try.prog) (A := A0_1) (c := c0_1) Try.underlying32 Try.underlying5 Try.underlying9 (Kd.C_below HR0_1.out HB.out)
            have hcz23_0 : wc.cell? ⟨gb118, 0, none⟩ = some (.int .i64 a1_0) := (blk_cell BK118.out 0).trans rfl
            have hcz23_1 : wc.cell? ⟨gb118, 1, none⟩ = some (.slice A1_1 l1_1.length c1_1) := (blk_cell BK118.out 1).trans rfl
            have hcz23_2 : wc.cell? ⟨gb118, 2, none⟩ = some (.slice A1_2 l1_2.length c1_2) := (blk_cell BK118.out 2).trans rfl
            have hcz23_3 : wc.cell? ⟨gb118, 3, none⟩ = some (.int .u32 a1_3) := (blk_cell BK118.out 3).trans rfl
            have hcz23_4 : wc.cell? ⟨gb118, 4, none⟩ = some (.int .u32 a1_4) := (blk_cell BK118.out 4).trans rfl
            have hcz23_5 : wc.cell? ⟨gb118, 5, none⟩ = some (.bool a1_5) := (blk_cell BK118.out 5).trans rfl
            have hcz23_6 : wc.cell? ⟨gb118, 6, none⟩ = some (.int .u8 a1_6) := (blk_cell BK118.out 6).trans rfl
            have hcz23_7 : wc.cell? ⟨gb118, 7, none⟩ = some (.bool a1_7) := (blk_cell BK118.out 7).trans rfl
            have hfz23_0 := blk_frozen BK118.out 0
            have hfz23_1 := blk_frozen BK118.out 1
            have hfz23_2 := blk_frozen BK118.out 2
            have hfz23_3 := blk_frozen BK118.out 3
            have hfz23_4 := blk_frozen BK118.out 4
            have hfz23_5 := blk_frozen BK118.out 5
            have hfz23_6 := blk_frozen BK118.out 6
            have hfz23_7 := blk_frozen BK118.out 7
            have hcv24 := Kd.C_string (P := Try.prog) (A := A1_1) (c := c1_1) Try.underlying32 Try.underlying5 Try.underlying9 (Kd.C_below HR1_1.out HB.out)
            have hcv25 := Kd.C_string (P := Try.prog) (A := A0_2) (c := c0_2) Try.underlying32 Try.underlying5 Try.underlying9 (Kd.C_below HR0_2.out HB.out)
            have hcv26 := Kd.C_string (P := Try.prog) (A := A1_2) (c := c1_2) Try.underlying32 Try.underlying5 Try.underlying9 (Kd.C_below HR1_2.out HB.out)
            go_wp2
            go_ret
            exact ⟨by first | rfl | (simp [errW_none, errW_some] <;> rfl) | (simp [*, errW_none, errW_some] <;> rfl), by repeat (first | (with_reducible first | exact HB.out | apply below_alloc | apply pw_below_drewN | apply below_drew1 | refine below_set ?_ GE117.out | refine below_set ?_ GE118.out) | exact HB.out)⟩
          · rw [if_neg c19] at H
            have c19b0 : ((strOfNums l0_1).toList == (strOfNums l1_1).toList) = false := beq_eq_false_iff_ne.mpr c19
            have c19b1 : ((strOfNums l0_1).toList != (strOfNums l1_1).toList) = true := bne_iff_ne.mpr c19
            obtain rfl := Option.some.inj H
            have hnb27 := NB117_118.out
            have hnc27 := NB118_117.out
            have hcz28_0 : wc.cell? ⟨gb117, 0, none⟩ = some (.int .i64 a0_0) := (blk_cell BK117.out 0).trans rfl
            have hcz28_1 : wc.cell? ⟨gb117, 1, none⟩ = some (.slice A0_1 l0_1.length c0_1) := (blk_cell BK117.out 1).trans rfl
            have hcz28_2 : wc.cell? ⟨gb117, 2, none⟩ = some (.slice A0_2 l0_2.length c0_2) := (blk_cell BK117.out 2).trans rfl
            have hcz28_3 : wc.cell? ⟨gb117, 3, none⟩ = some (.int .u32 a0_3) := (blk_cell BK117.out 3).trans rfl
            have hcz28_4 : wc.cell? ⟨gb117, 4, none⟩ = some (.int .u32 a0_4) := (blk_cell BK117.out 4).trans rfl
            have hcz28_5 : wc.cell? ⟨gb117, 5, none⟩ = some (.bool a0_5) := (blk_cell BK117.out 5).trans rfl
            have hcz28_6 : wc.cell? ⟨gb117, 6, none⟩ = some (.int .u8 a0_6) := (blk_cell BK117.out 6).trans rfl
            have hcz28_7 : wc.cell? ⟨gb117, 7, none⟩ = some (.bool a0_7) := (blk_cell BK117.out 7).trans rfl
            have hfz28_0 := blk_frozen BK117.out 0
            have hfz28_1 := blk_frozen BK117.out 1
            have hfz28_2 := blk_frozen BK117.out 2
            have hfz28_3 := blk_frozen BK117.out 3
            have hfz28_4 := blk_frozen BK117.out 4
            have hfz28_5 := blk_frozen BK117.out 5
            have hfz28_6 := blk_frozen BK117.out 6
            have hfz28_7 := blk_frozen BK117.out 7
            have hcv29 := Kd.C_string (P := Try.prog) (A := A0_1) (c := c0_1) Try.underlying32 Try.underlying5 Try.underlying9 (Kd.C_below HR0_1.out HB.out)
            have hcz30_0 : wc.cell? ⟨gb118, 0, none⟩ = some (.int .i64 a1_0) := (blk_cell BK118.out 0).trans rfl
            have hcz30_1 : wc.cell? ⟨gb118, 1, none⟩ = some (.slice A1_1 l1_1.length c1_1) := (blk_cell BK118.out 1).trans rfl
            have hcz30_2 : wc.cell? ⟨gb118, 2, none⟩ = some (.slice A1_2 l1_2.length c1_2) := (blk_cell BK118.out 2).trans rfl
            have hcz30_3 : wc.cell? ⟨gb118, 3, none⟩ = some (.int .u32 a1_3) := (blk_cell BK118.out 3).trans rfl
            have hcz30_4 : wc.cell? ⟨gb118, 4, none⟩ = some (.int .u32 a1_4) := (blk_cell BK118.out 4).trans rfl
            have hcz30_5 : wc.cell? ⟨gb118, 5, none⟩ = some (.bool a1_5) := (blk_cell BK118.out 5).trans rfl
            have hcz30_6 : wc.cell? ⟨gb118, 6, none⟩ = some (.int .u8 a1_6) := (blk_cell BK118.out 6).trans rfl
            have hcz30_7 : wc.cell? ⟨gb118, 7, none⟩ = some (.bool a1_7) := (blk_cell BK118.out 7).trans rfl
            have hfz30_0 := blk_frozen BK118.out 0
            have hfz30_1 := blk_frozen BK118.out 1
            have hfz30_2 := blk_frozen BK118.out 2
            have hfz30_3 := blk_frozen BK118.out 3
            have hfz30_4 := blk_frozen BK118.out 4
            have hfz30_5 := blk_frozen BK118.out 5
            have hfz30_6 := blk_frozen BK118.out 6
            have hfz30_7 := blk_frozen BK118.out 7
            have hcv31 := Kd.C_string (P := Try.prog) (A := A1_1) (c := c1_1) Try.underlying32 Try.underlying5 Try.underlying9 (Kd.C_below HR1_1.out HB.out)
            go_wp2
            go_ret
            exact ⟨by first | rfl | (simp [errW_none, errW_some] <;> rfl) | (simp [*, errW_none, errW_some] <;> rfl), by repeat (first | (with_reducible first | exact HB.out | apply below_alloc | apply pw_below_drewN | apply below_drew1 | refine below_set ?_ GE117.out | refine below_set ?_ GE118.out) | exact HB.out)⟩
        · rw [if_neg c18] at H
          have c18b0 : (a0_0 == 0) = false := beq_eq_false_iff_ne.mpr c18
          have c18b1 : (a0_0 != 0) = true := bne_iff_ne.mpr c18
          by_cases c32 : a0_0 = 3
          · rw [if_pos c32] at H
            have c32b0 : (a0_0 == 3) = true := beq_iff_eq.mpr c32
            have c32b1 : (a0_0 != 3) = false := bne_eq_false_iff_eq.mpr c32
            clear c32
            by_cases c33 : a0_6 = a1_6
            · rw [if_pos c33] at H
              have c33b0 : (a0_6 == a1_6) = true := beq_iff_eq.mpr c33
              have c33b1 : (a0_6 != a1_6) = false := bne_eq_false_iff_eq.mpr c33
              clear c33
              obtain rfl := Option.some.inj H
              have hnb34 := NB117_118.out
              have hnc34 := NB118_117.out
              have hcz35_0 : wc.cell? ⟨gb117, 0, none⟩ = some (.int .i64 a0_0) := (blk_cell BK117.out 0).trans rfl
              have hcz35_1 : wc.cell? ⟨gb117, 1, none⟩ = some (.slice A0_1 l0_1.length c0_1) := (blk_cell BK117.out 1).trans rfl
              have hcz35_2 : wc.cell? ⟨gb117, 2, none⟩ = some (.slice A0_2 l0_2.length c0_2) := (blk_cell BK117.out 2).trans rfl
              have hcz35_3 : wc.cell? ⟨gb117, 3, none⟩ = some (.int .u32 a0_3) := (blk_cell BK117.out 3).trans rfl
              have hcz35_4 : wc.cell? ⟨gb117, 4, none⟩ = some (.int .u32 a0_4) := (blk_cell BK117.out 4).trans rfl
              have hcz35_5 : wc.cell? ⟨gb117, 5, none⟩ = some (.bool a0_5) := (blk_cell BK117.out 5).trans rfl
              have hcz35_6 : wc.cell? ⟨gb117, 6, none⟩ = some (.int .u8 a0_6) := (blk_cell BK117.out 6).trans rfl
              have hcz35_7 : wc.cell? ⟨gb117, 7, none⟩ = some (.bool a0_7) := (blk_cell BK117.out 7).trans rfl
              have hfz35_0 := blk_frozen BK117.out 0
              have hfz35_1 := blk_frozen BK117.out 1
              have hfz35_2 := blk_frozen BK117.out 2
              have hfz35_3 := blk_frozen BK117.out 3
              have hfz35_4 := blk_frozen BK117.out 4
              have hfz35_5 := blk_frozen BK117.out 5
              have hfz35_6 := blk_frozen BK117.out 6
              have hfz35_7 := blk_frozen BK117.out 7
              have hcz36_0 : wc.cell? ⟨gb118, 0, none⟩ = some (.int .i64 a1_0) := (blk_cell BK118.out 0).trans rfl
              have hcz36_1 : wc.cell? ⟨gb118, 1, none⟩ = some (.slice A1_1 l1_1.length c1_1) := (blk_cell BK118.out 1).trans rfl
              have hcz36_2 : wc.cell? ⟨gb118, 2, none⟩ = some (.slice A1_2 l1_2.length c1_2) := (blk_cell BK118.out 2).trans rfl
              have hcz36_3 : wc.cell? ⟨gb118, 3, none⟩ = some (.int .u32 a1_3) := (blk_cell BK118.out 3).trans rfl
              have hcz36_4 : wc.cell? ⟨gb118, 4, none⟩ = some (.int .u32 a1_4) := (blk_cell BK118.out 4).trans rfl
              have hcz36_5 : wc.cell? ⟨gb118, 5, none⟩ = some (.bool a1_5) := (blk_cell BK118.out 5).trans rfl
              have hcz36_6 : wc.cell? ⟨gb118, 6, none⟩ = some (.int .u8 a1_6) := (blk_cell BK118.out 6).trans rfl
              have hcz36_7 : wc.cell? ⟨gb118, 7, none⟩ = some (.bool a1_7) := (blk_cell BK118.out 7).trans rfl
              have hfz36_0 := blk_frozen BK118.out 0
              have hfz36_1 := blk_frozen BK118.out 1
              have hfz36_2 := blk_frozen BK118.out 2
              have hfz36_3 := blk_frozen BK118.out 3
              have hfz36_4 := blk_frozen BK118.out 4
              have hfz36_5 := blk_frozen BK118.out 5
              have hfz36_6 := blk_frozen BK118.out 6
              have hfz36_7 := blk_frozen BK118.out 7
              go_wp2
              go_ret
              exact ⟨by first | rfl | (simp [errW_none, errW_some] <;> rfl) | (simp [*, errW_none, errW_some] <;> rfl), by repeat (first | (with_reducible first | exact HB.out | apply below_alloc | apply pw_below_drewN | apply below_drew1 | refine below_set ?_ GE117.out | refine below_set ?_ GE118.out) | exact HB.out)⟩
            · rw [if_neg c33] at H
              have c33b0 : (a0_6 == a1_6) = false := beq_eq_false_iff_ne.mpr c33
              have c33b1 : (a0_6 != a1_6) = true := bne_iff_ne.mpr c33
              obtain rfl := Option.some.inj H
              have hnb37 := NB117_118.out
              have hnc37 := NB118_117.out
              have hcz38_0 : wc.cell? ⟨gb117, 0, none⟩ = some (.int .i64 a0_0) := (blk_cell BK117.out 0).trans rfl
              have hcz38_1 : wc.cell? ⟨gb117, 1, none⟩ = some (.slice A0_1 l0_1.length c0_1) := (blk_cell BK117.out 1).trans rfl
              have hcz38_2 : wc.cell? ⟨gb117, 2, none⟩ = some (.slice A0_2 l0_2.length c0_2) := (blk_cell BK117.out 2).trans rfl
              have hcz38_3 : wc.cell? ⟨gb117, 3, none⟩ = some (.int .u32 a0_3) := (blk_cell BK117.out 3).trans rfl
              have hcz38_4 : wc.cell? ⟨gb117, 4, none⟩ = some (.int .u32 a0_4) := (blk_cell BK117.out 4).trans rfl
              have hcz38_5 : wc.cell? ⟨gb117, 5, none⟩ = some (.bool a0_5) := (blk_cell BK117.out 5).trans rfl
              have hcz38_6 : wc.cell? ⟨gb117, 6, none⟩ = some (.int .u8 a0_6) := (blk_cell BK117.out 6).trans rfl
              have hcz38_7 : wc.cell? ⟨gb117, 7, none⟩ = some (.bool a0_7) := (blk_cell BK117.out 7).trans rfl
              have hfz38_0 := blk_frozen BK117.out 0
              have hfz38_1 := blk_frozen BK117.out 1
              have hfz38_2 := blk_frozen BK117.out 2
              have hfz38_3 := blk_frozen BK117.out 3
              have hfz38_4 := blk_frozen BK117.out 4
              have hfz38_5 := blk_frozen BK117.out 5
              have hfz38_6 := blk_frozen BK117.out 6
              have hfz38_7 := blk_frozen BK117.out 7
              have hcz39_0 : wc.cell? ⟨gb118, 0, none⟩ = some (.int .i64 a1_0) := (blk_cell BK118.out 0).trans rfl
              have hcz39_1 : wc.cell? ⟨gb118, 1, none⟩ = some (.slice A1_1 l1_1.length c1_1) := (blk_cell BK118.out 1).trans rfl
              have hcz39_2 : wc.cell? ⟨gb118, 2, none⟩ = some (.slice A1_2 l1_2.length c1_2) := (blk_cell BK118.out 2).trans rfl
              have hcz39_3 : wc.cell? ⟨gb118, 3, none⟩ = some (.int .u32 a1_3) := (blk_cell BK118.out 3).trans rfl
              have hcz39_4 : wc.cell? ⟨gb118, 4, none⟩ = some (.int .u32 a1_4) := (blk_cell BK118.out 4).trans rfl
              have hcz39_5 : wc.cell? ⟨gb118, 5, none⟩ = some (.bool a1_5) := (blk_cell BK118.out 5).trans rfl
              have hcz39_6 : wc.cell? ⟨gb118, 6, none⟩ = some (.int .u8 a1_6) := (blk_cell BK118.out 6).trans rfl
              have hcz39_7 : wc.cell? ⟨gb118, 7, none⟩ = some (.bool a1_7) := (blk_cell BK118.out 7).trans rfl
              have hfz39_0 := blk_frozen BK118.out 0
              have hfz39_1 := blk_frozen BK118.out 1
              have hfz39_2 := blk_frozen BK118.out 2
              have hfz39_3 := blk_frozen BK118.out 3
              have hfz39_4 := blk_frozen BK118.out 4
              have hfz39_5 := blk_frozen BK118.out 5
              have hfz39_6 := blk_frozen BK118.out 6
              have hfz39_7 := blk_frozen BK118.out 7
              go_wp2
              go_ret
              exact ⟨by first | rfl | (simp [errW_none, errW_some] <;> rfl) | (simp [*, errW_none, errW_some] <;> rfl), by repeat (first | (with_reducible first | exact HB.out | apply below_alloc | apply pw_below_drewN | apply below_drew1 | refine below_set ?_ GE117.out | refine below_set ?_ GE118.out) | exact HB.out)⟩
          · rw [if_neg c32] at H
            have c32b0 : (a0_0 == 3) = false := beq_eq_false_iff_ne.mpr c32
            have c32b1 : (a0_0 != 3) = true := bne_iff_ne.mpr c32
            by_cases c40 : a1_3 < a0_3
            · rw [if_pos c40] at H
              have c40b0 : decide (a1_3 < a0_3) = true := decide_eq_true c40
              clear c40
              obtain rfl := Option.some.inj H
              have hnb41 := NB117_118.out
              have hnc41 := NB118_117.out
              have hcz42_0 : wc.cell? ⟨gb117, 0, none⟩ = some (.int .i64 a0_0) := (blk_cell BK117.out 0).trans rfl
              have hcz42_1 : wc.cell? ⟨gb117, 1, none⟩ = some (.slice A0_1 l0_1.length c0_1) := (blk_cell BK117.out 1).trans rfl
              have hcz42_2 : wc.cell? ⟨gb117, 2, none⟩ = some (.slice A0_2 l0_2.length c0_2) := (blk_cell BK117.out 2).trans rfl
              have hcz42_3 : wc.cell? ⟨gb117, 3, none⟩ = some (.int .u32 a0_3) := (blk_cell BK117.out 3).trans rfl
              have hcz42_4 : wc.cell? ⟨gb117, 4, none⟩ = some (.int .u32 a0_4) := (blk_cell BK117.out 4).trans rfl
              have hcz42_5 : wc.cell? ⟨gb117, 5, none⟩ = some (.bool a0_5) := (blk_cell BK117.out 5).trans rfl
              have hcz42_6 : wc.cell? ⟨gb117, 6, none⟩ = some (.int .u8 a0_6) := (blk_cell BK117.out 6).trans rfl
              have hcz42_7 : wc.cell? ⟨gb117, 7, none⟩ = some (.bool a0_7) := (blk_cell BK117.out 7).trans rfl
              have hfz42_0 := blk_frozen BK117.out 0
              have hfz42_1 := blk_frozen BK117.out 1
              have hfz42_2 := blk_frozen BK117.out 2
              have hfz42_3 := blk_frozen BK117.out 3
              have hfz42_4 := blk_frozen BK117.out 4
              have hfz42_5 := blk_frozen BK117.out 5
              have hfz42_6 := blk_frozen BK117.out 6
              have hfz42_7 := blk_frozen BK117.out 7
              have hcz43_0 : wc.cell? ⟨gb118, 0, none⟩ = some (.int .i64 a1_0) := (blk_cell BK118.out 0).trans rfl
              have hcz43_1 : wc.cell? ⟨gb118, 1, none⟩ = some (.slice A1_1 l1_1.length c1_1) := (blk_cell BK118.out 1).trans rfl
              have hcz43_2 : wc.cell? ⟨gb118, 2, none⟩ = some (.slice A1_2 l1_2.length c1_2) := (blk_cell BK118.out 2).trans rfl
              have hcz43_3 : wc.cell? ⟨gb118, 3, none⟩ = some (.int .u32 a1_3) := (blk_cell BK118.out 3).trans rfl
              have hcz43_4 : wc.cell? ⟨gb118, 4, none⟩ = some (.int .u32 a1_4) := (blk_cell BK118.out 4).trans rfl
              have hcz43_5 : wc.cell? ⟨gb118, 5, none⟩ = some (.bool a1_5) := (blk_cell BK118.out 5).trans rfl
              have hcz43_6 : wc.cell? ⟨gb118, 6, none⟩ = some (.int .u8 a1_6) := (blk_cell BK118.out 6).trans rfl
              have hcz43_7 : wc.cell? ⟨gb118, 7, none⟩ = some (.bool a1_7) := (blk_cell BK118.out 7).trans rfl
              have hfz43_0 := blk_frozen BK118.out 0
              have hfz43_1 := blk_frozen BK118.out 1
              have hfz43_2 := blk_frozen BK118.out 2
              have hfz43_3 := blk_frozen BK118.out 3
              have hfz43_4 := blk_frozen BK118.out 4
              have hfz43_5 := blk_frozen BK118.out 5
              have hfz43_6 := blk_frozen BK118.out 6
              have hfz43_7 := blk_frozen BK118.out 7
              go_wp2
              go_ret
              exact ⟨by first | rfl | (simp [errW_none, errW_some] <;> rfl) | (simp [*, errW_none, errW_some] <;> rfl), by repeat (first | (with_reducible first | exact HB.out | apply below_alloc | apply pw_below_drewN | apply below_drew1 | refine below_set ?_ GE117.out | refine below_set ?_ GE118.out) | exact HB.out)⟩
            · rw [if_neg c40] at H
              have c40b0 : decide (a1_3 < a0_3) = false := decide_eq_false c40
              clear c40
              by_cases c44 : a0_5 = true
              · subst c44
                have H1 : (if a1_5 = true then (some (decide (a1_4 ≤ a0_4))) else (some false)) = some r := by rw [if_pos rfl] at H; exact H
                clear H
                have H := H1
                clear H1
                by_cases c45 : a1_5 = true
                · subst c45
                  have H1 : (some (decide (a1_4 ≤ a0_4))) = some r := by rw [if_pos rfl] at H; exact H
                  clear H
                  have H := H1
                  clear H1
                  obtain rfl := Option.some.inj H
                  have hnb46 := NB117_118.out
                  have hnc46 := NB118_117.out
                  have hcz47_0 : wc.cell? ⟨gb117, 0, none⟩ = some (.int .i64 a0_0) := (blk_cell BK117.out 0).trans rfl
                  have hcz47_1 : wc.cell? ⟨gb117, 1, none⟩ = some (.slice A0_1 l0_1.length c0_1) := (blk_cell BK117.out 1).trans rfl
                  have hcz47_2 : wc.cell? ⟨gb117, 2, none⟩ = some (.slice A0_2 l0_2.length c0_2) := (blk_cell BK117.out 2).trans rfl
                  have hcz47_3 : wc.cell? ⟨gb117, 3, none⟩ = some (.int .u32 a0_3) := (blk_cell BK117.out 3).trans rfl
                  have hcz47_4 : wc.cell? ⟨gb117, 4, none⟩ = some (.int .u32 a0_4) := (blk_cell BK117.out 4).trans rfl
                  have hcz47_5 : wc.cell? ⟨gb117, 5, none⟩ = some (.bool true) := (blk_cell BK117.out 5).trans rfl
                  have hcz47_6 : wc.cell? ⟨gb117, 6, none⟩ = some (.int .u8 a0_6) := (blk_cell BK117.out 6).trans rfl
                  have hcz47_7 : wc.cell? ⟨gb117, 7, none⟩ = some (.bool a0_7) := (blk_cell BK117.out 7).trans rfl
                  have hfz47_0 := blk_frozen BK117.out 0
                  have hfz47_1 := blk_frozen BK117.out 1
                  have hfz47_2 := blk_frozen BK117.out 2
                  have hfz47_3 := blk_frozen BK117.out 3
                  have hfz47_4 := blk_frozen BK117.out 4
                  have hfz47_5 := blk_frozen BK117.out 5
                  have hfz47_6 := blk_frozen BK117.out 6
                  have hfz47_7 := blk_frozen BK117.out 7
                  have hcz48_0 : wc.cell? ⟨gb118, 0, none⟩ = some (.int .i64 a1_0) := (blk_cell BK118.out 0).trans rfl
                  have hcz48_1 : wc.cell? ⟨gb118, 1, none⟩ = some (.slice A1_1 l1_1.length c1_1) := (blk_cell BK118.out 1).trans rfl
                  have hcz48_2 : wc.cell? ⟨gb118, 2, none⟩ = some (.slice A1_2 l1_2.length c1_2) := (blk_cell BK118.out 2).trans rfl
                  have hcz48_3 : wc.cell? ⟨gb118, 3, none⟩ = some (.int .u32 a1_3) := (blk_cell BK118.out 3).trans rfl
                  have hcz48_4 : wc.cell? ⟨gb118, 4, none⟩ = some (.int .u32 a1_4) := (blk_cell BK118.out 4).trans rfl
                  have hcz48_5 : wc.cell? ⟨gb118, 5, none⟩ = some (.bool true) := (blk_cell BK118.out 5).trans rfl
                  have hcz48_6 : wc.cell? ⟨gb118, 6, none⟩ = some (.int .u8 a1_6) := (blk_cell BK118.out 6).trans rfl
                  have hcz48_7 : wc.cell? ⟨gb118, 7, none⟩ = some (.bool a1_7) := (blk_cell BK118.out 7).trans rfl
                  have hfz48_0 := blk_frozen BK118.out 0
                  have hfz48_1 := blk_frozen BK118.out 1
                  have hfz48_2 := blk_frozen BK118.out 2
                  have hfz48_3 := blk_frozen BK118.out 3
                  have hfz48_4 := blk_frozen BK118.out 4
                  have hfz48_5 := blk_frozen BK118.out 5
                  have hfz48_6 := blk_frozen BK118.out 6
                  have hfz48_7 := blk_frozen BK118.out 7
                  go_wp2
                  go_ret
                  exact ⟨by first | rfl | (simp [errW_none, errW_some] <;> rfl) | (simp [*, errW_none, errW_some] <;> rfl), by repeat (first | (with_reducible first | exact HB.out | apply below_alloc | apply pw_below_drewN | apply below_drew1 | refine below_set ?_ GE117.out | refine below_set ?_ GE118.out) | exact HB.out)⟩
                · replace c45 := Bool.eq_false_iff.mpr c45
                  subst c45
                  have H1 : (some false) = some r := by rw [if_neg (show ¬ (false = true) by decide)] at H; exact H
                  clear H
                  have H := H1
                  clear H1
                  obtain rfl := Option.some.inj H
                  have hnb49 := NB117_118.out
                  have hnc49 := NB118_117.out
                  have hcz50_0 : wc.cell? ⟨gb117, 0, none⟩ = some (.int .i64 a0_0) := (blk_cell BK117.out 0).trans rfl
                  have hcz50_1 : wc.cell? ⟨gb117, 1, none⟩ = some (.slice A0_1 l0_1.length c0_1) := (blk_cell BK117.out 1).trans rfl
                  have hcz50_2 : wc.cell? ⟨gb117, 2, none⟩ = some (.slice A0_2 l0_2.length c0_2) := (blk_cell BK117.out 2).trans rfl
                  have hcz50_3 : wc.cell? ⟨gb117, 3, none⟩ = some (.int .u32 a0_3) := (blk_cell BK117.out 3).trans rfl
                  have hcz50_4 : wc.cell? ⟨gb117, 4, none⟩ = some (.int .u32 a0_4) := (blk_cell BK117.out 4).trans rfl
                  have hcz50_5 : wc.cell? ⟨gb117, 5, none⟩ = some (.bool true) := (blk_cell BK117.out 5).trans rfl
                  have hcz50_6 : wc.cell? ⟨gb117, 6, none⟩ = some (.int .u8 a0_6) := (blk_cell BK117.out 6).trans rfl
                  have hcz50_7 : wc.cell? ⟨gb117, 7, none⟩ = some (.bool a0_7) := (blk_cell BK117.out 7).trans rfl
                  have hfz50_0 := blk_frozen BK117.out 0
                  have hfz50_1 := blk_frozen BK117.out 1
                  have hfz50_2 := blk_frozen BK117.out 2
                  have hfz50_3 := blk_frozen BK117.out 3
                  have hfz50_4 := blk_frozen BK117.out 4
                  have hfz50_5 := blk_frozen BK117.out 5
                  have hfz50_6 := blk_frozen BK117.out 6
                  have hfz50_7 := blk_frozen BK117.out 7
                  have hcz51_0 : wc.cell? ⟨gb118, 0, none⟩ = some (.int .i64 a1_0) := (blk_cell BK118.out 0).trans rfl
                  have hcz51_1 : wc.cell? ⟨gb118, 1, none⟩ = some (.slice A1_1 l1_1.length c1_1) := (blk_cell BK118.out 1).trans rfl
                  have hcz51_2 : wc.cell? ⟨gb118, 2, none⟩ = some (.slice A1_2 l1_2.length c1_2) := (blk_cell BK118.out 2).trans rfl
                  have hcz51_3 : wc.cell? ⟨gb118, 3, none⟩ = some (.int .u32 a1_3) := (blk_cell BK118.out 3).trans rfl
                  have hcz51_4 : wc.cell? ⟨gb118, 4, none⟩ = some (.int .u32 a1_4) := (blk_cell BK118.out 4).trans rfl
                  have hcz51_5 : wc.cell? ⟨gb118, 5, none⟩ = some (.bool false) := (blk_cell BK118.out 5).trans rfl
                  have hcz51_6 : wc.cell? ⟨gb118, 6, none⟩ = some (.int .u8 a1_6) := (blk_cell BK118.out 6).trans rfl
                  have hcz51_7 : wc.cell? ⟨gb118, 7, none⟩ = some (.bool a1_7) := (blk_cell BK118.out 7).trans rfl
                  have hfz51_0 := blk_frozen BK118.out 0
                  have hfz51_1 := blk_frozen BK118.out 1
                  have hfz51_2 := blk_frozen BK118.out 2
                  have hfz51_3 := blk_frozen BK118.out 3
                  have hfz51_4 := blk_frozen BK118.out 4
                  have hfz51_5 := blk_frozen BK118.out 5
                  have hfz51_6 := blk_frozen BK118.out 6
                  have hfz51_7 := blk_frozen BK118.out 7
                  go_wp2
                  go_ret
                  exact ⟨by first | rfl | (simp [errW_none, errW_some] <;> rfl) | (simp [*, errW_none, errW_some] <;> rfl), by repeat (first | (with_reducible first | exact HB.out | apply below_alloc | apply pw_below_drewN | apply below_drew1 | refine below_set ?_ GE117.out | refine below_set ?_ GE118.out) | exact HB.out)⟩
              · replace c44 := Bool.eq_false_iff.mpr c44
                subst c44
                have H1 : (some true) = some r := by rw [if_neg (show ¬ (false = true) by decide)] at H; exact H
                clear H
                have H := H1
                clear H1
                obtain rfl := Option.some.inj H
                have hnb52 := NB117_118.out
                have hnc52 := NB118_117.out
                have hcz53_0 : wc.cell? ⟨gb117, 0, none⟩ = some (.int .i64 a0_0) := (blk_cell BK117.out 0).trans rfl
                have hcz53_1 : wc.cell? ⟨gb117, 1, none⟩ = some (.slice A0_1 l0_1.length c0_1) := (blk_cell BK117.out 1).trans rfl
                have hcz53_2 : wc.cell? ⟨gb117, 2, none⟩ = some (.slice A0_2 l0_2.length c0_2) := (blk_cell BK117.out 2).trans rfl
                have hcz53_3 : wc.cell? ⟨gb117, 3, none⟩ = some (.int .u32 a0_3) := (blk_cell BK117.out 3).trans rfl
                have hcz53_4 : wc.cell? ⟨gb117, 4, none⟩ = some (.int .u32 a0_4) := (blk_cell BK117.out 4).trans rfl
                have hcz53_5 : wc.cell? ⟨gb117, 5, none⟩ = some (.bool false) := (blk_cell BK117.out 5).trans rfl
                have hcz53_6 : wc.cell? ⟨gb117, 6, none⟩ = some (.int .u8 a0_6) := (blk_cell BK117.out 6).trans rfl
                have hcz53_7 : wc.cell? ⟨gb117, 7, none⟩ = some (.bool a0_7) := (blk_cell BK117.out 7).trans rfl
                have hfz53_0 := blk_frozen BK117.out 0
                have hfz53_1 := blk_frozen BK117.out 1
                have hfz53_2 := blk_frozen BK117.out 2
                have hfz53_3 := blk_frozen BK117.out 3
                have hfz53_4 := blk_frozen BK117.out 4
                have hfz53_5 := blk_frozen BK117.out 5
                have hfz53_6 := blk_frozen BK117.out 6
                have hfz53_7 := blk_frozen BK117.out 7
                have hcz54_0 : wc.cell? ⟨gb118, 0, none⟩ = some (.int .i64 a1_0) := (blk_cell BK118.out 0).trans rfl
                have hcz54_1 : wc.cell? ⟨gb118, 1, none⟩ = some (.slice A1_1 l1_1.length c1_1) := (blk_cell BK118.out 1).trans rfl
                have hcz54_2 : wc.cell? ⟨gb118, 2, none⟩ = some (.slice A1_2 l1_2.length c1_2) := (blk_cell BK118.out 2).trans rfl
                have hcz54_3 : wc.cell? ⟨gb118, 3, none⟩ = some (.int .u32 a1_3) := (blk_cell BK118.out 3).trans rfl
                have hcz54_4 : wc.cell? ⟨gb118, 4, none⟩ = some (.int .u32 a1_4) := (blk_cell BK118.out 4).trans rfl
                have hcz54_5 : wc.cell? ⟨gb118, 5, none⟩ = some (.bool a1_5) := (blk_cell BK118.out 5).trans rfl
                have hcz54_6 : wc.cell? ⟨gb118, 6, none⟩ = some (.int .u8 a1_6) := (blk_cell BK118.out 6).trans rfl
                have hcz54_7 : wc.cell? ⟨gb118, 7, none⟩ = some (.bool a1_7) := (blk_cell BK118.out 7).trans rfl
                have hfz54_0 := blk_frozen BK118.out 0
                have hfz54_1 := blk_frozen BK118.out 1
                have hfz54_2 := blk_frozen BK118.out 2
                have hfz54_3 := blk_frozen BK118.out 3
                have hfz54_4 := blk_frozen BK118.out 4
                have hfz54_5 := blk_frozen BK118.out 5
                have hfz54_6 := blk_frozen BK118.out 6
                have hfz54_7 := blk_frozen BK118.out 7
                go_wp2
                go_ret
                exact ⟨by first | rfl | (simp [errW_none, errW_some] <;> rfl) | (simp [*, errW_none, errW_some] <;> rfl), by repeat (first | (with_reducible first | exact HB.out | apply below_alloc | apply pw_below_drewN | apply below_drew1 | refine below_set ?_ GE117.out | refine below_set ?_ GE118.out) | exact HB.out)⟩

end Go.Proofs.Ytkpjdkmggbelfaa.PLinkMatches
