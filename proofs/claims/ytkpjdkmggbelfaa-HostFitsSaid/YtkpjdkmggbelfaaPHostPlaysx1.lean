-- PRINTED BY print.sh 35421559b90ae4d0a3588c463048766b98c2df88dd9212a6774a882060cdf62d: not written by this session
import Derived.Test.YtkpjdkmggbelfaaPHostPlaysx0
namespace Go.Proofs.Ytkpjdkmggbelfaa.PHostPlays
open Go.RowKit Go.Proofs.YtkpjdkmggbelfaaW.PrintWords Go.Proofs.YtkpjdkmggbelfaaW.PrintLast Go.Proofs.YtkpjdkmggbelfaaW.PrintMore
attribute [local go_sem] max2_int min2_int max_two min_two max_three min_three max_four min_four   -- for this text's walks alone
set_option linter.unusedVariables false
set_option linter.unusedSimpArgs false

/-- A state of type 103 at block g of W; what its slices lead to came in by w0. -/
def IsS103 (w0 W : World) (g : Nat) (f0 : List (S109)) (f1 : List Bool) (f2 : List (S156)) (f3 : Bool) : Prop := ∃ A0 c0, ∃ A1 c1, ∃ A2 c2, W.heap[g]? = some (.cells #[.slice A0 f0.length c0, .slice A1 f1.length c1, .slice A2 f2.length c2, .bool f3] 103 (0, 0)) ∧ w0.heap.size ≤ g ∧ Kd.C k109 w0 A0 f0.length f0 ∧ Kd.C Kd.bool w0 A1 f1.length f1 ∧ Kd.C k156 w0 A2 f2.length f2
theorem IsS103.grown {w0 W : World} {g : Nat} {f0 : List (S109)} {f1 : List Bool} {f2 : List (S156)} {f3 : Bool} {W1 : World} {row : Option Nat} (h : IsS103 w0 W g f0 f1 f2 f3) (hw : W.grownBy W1 row) (hne : some g ≠ row) : IsS103 w0 W1 g f0 f1 f2 f3 := by
  obtain ⟨A0, c0, A1, c1, A2, c2, hb, hg, hr0, hr1, hr2⟩ := h
  exact ⟨A0, c0, A1, c1, A2, c2, blk_grown hb hw hne, hg, hr0, hr1, hr2⟩
theorem IsS103.own_neN {w0 W : World} {g : Nat} {f0 : List (S109)} {f1 : List Bool} {f2 : List (S156)} {f3 : Bool} {α : Type} {d : Kd α} {e : Nat} {base : Nat} {ok : Nat → Prop} {v : Value} {xs : List α} (h : IsS103 w0 W g f0 f1 f2 f3) (ho : Kd.N d e W base ok v xs) (ht : e ≠ 103) : some g ≠ v.ownBlock := by
  obtain ⟨A0, c0, A1, c1, A2, c2, hb, hg, hr0, hr1, hr2⟩ := h
  exact Kd.N_ne ho hb ht
theorem IsS103.fresh {w0 W : World} {g : Nat} {f0 : List (S109)} {f1 : List Bool} {f2 : List (S156)} {f3 : Bool} (h : IsS103 w0 W g f0 f1 f2 f3) : ∀ k, W.heap.size ≤ k → k ≠ g := by
  obtain ⟨A0, c0, A1, c1, A2, c2, hb, hg, hr0, hr1, hr2⟩ := h
  exact Kd.freshB hb
theorem IsS103.kept {w0 W : World} {g : Nat} {f0 : List (S109)} {f1 : List Bool} {f2 : List (S156)} {f3 : Bool} {W1 : World} {S : Nat → Prop} (h : IsS103 w0 W g f0 f1 f2 f3) (hk : Kept W W1 S) (hne : ¬ S g) : IsS103 w0 W1 g f0 f1 f2 f3 := by
  obtain ⟨A0, c0, A1, c1, A2, c2, hb, hg, hr0, hr1, hr2⟩ := h
  exact ⟨A0, c0, A1, c1, A2, c2, blk_kept hb hk hne, hg, hr0, hr1, hr2⟩
theorem IsS103.below {w0 W : World} {g : Nat} {f0 : List (S109)} {f1 : List Bool} {f2 : List (S156)} {f3 : Bool} {W1 : World} (h : IsS103 w0 W g f0 f1 f2 f3) (hw : Below W.heap.size W W1) : IsS103 w0 W1 g f0 f1 f2 f3 := h.grown (grown_of_below hw none) (by simp)
theorem IsS103.alloc {w0 W : World} {g : Nat} {f0 : List (S109)} {f1 : List Bool} {f2 : List (S156)} {f3 : Bool} (h : IsS103 w0 W g f0 f1 f2 f3) (o : Obj) : IsS103 w0 (W.alloc o) g f0 f1 f2 f3 := h.below (below_alloc (Below.refl _ _) o)
theorem IsS103.drewN {w0 W : World} {g : Nat} {f0 : List (S109)} {f1 : List Bool} {f2 : List (S156)} {f3 : Bool} (h : IsS103 w0 W g f0 f1 f2 f3) (m : Nat) : IsS103 w0 (W.drewN m) g f0 f1 f2 f3 := h
theorem IsS103.drew {w0 W : World} {g : Nat} {f0 : List (S109)} {f1 : List Bool} {f2 : List (S156)} {f3 : Bool} (h : IsS103 w0 W g f0 f1 f2 f3) : IsS103 w0 W.drew g f0 f1 f2 f3 := h
theorem IsS103.at_ {w0 W : World} {g : Nat} {f0 : List (S109)} {f1 : List Bool} {f2 : List (S156)} {f3 : Bool} {w' : World} {m : Nat} (hq : W.drewN m = w') (h : IsS103 w0 W g f0 f1 f2 f3) : IsS103 w0 w' g f0 f1 f2 f3 := by subst hq; exact IsS103.drewN h m
theorem IsS103.apart {w0 W : World} {g : Nat} {f0 : List (S109)} {f1 : List Bool} {f2 : List (S156)} {f3 : Bool} {α : Type} {d : Kd α} {e : Nat} {base : Nat} {ok : Nat → Prop} {v : Value} {xs : List α} (h : IsS103 w0 W g f0 f1 f2 f3) (ho : d.R e W base ok v xs) (ht : ∀ q, q ∈ e :: d.E → q ≠ 103) : d.R e W base (fun k => ok k ∧ k ≠ g) v xs := by
  obtain ⟨A0, c0, A1, c1, A2, c2, hb, hg, hr0, hr1, hr2⟩ := h
  exact Kd.R_types ho hb ht
theorem IsS103.own_ne {w0 W : World} {g : Nat} {f0 : List (S109)} {f1 : List Bool} {f2 : List (S156)} {f3 : Bool} {α : Type} {d : Kd α} {e : Nat} {base : Nat} {ok : Nat → Prop} {v : Value} {xs : List α} (h : IsS103 w0 W g f0 f1 f2 f3) (ho : d.R e W base ok v xs) (ht : e ≠ 103) : some g ≠ v.ownBlock := by
  obtain ⟨A0, c0, A1, c1, A2, c2, hb, hg, hr0, hr1, hr2⟩ := h
  exact Kd.R_ne ho hb ht
theorem IsS103.apartQ {w0 W : World} {g : Nat} {f0 : List (S109)} {f1 : List Bool} {f2 : List (S156)} {f3 : Bool} {α : Type} {d : Kd α} {e : Nat} {base : Nat} {ok : Nat → Prop} {v : Value} {xs : List α} (h : IsS103 w0 W g f0 f1 f2 f3) (ho : d.Q e W base ok v xs) (ht : ∀ q, q ∈ e :: d.E → q ≠ 103) : d.Q e W base (fun k => ok k ∧ k ≠ g) v xs := by
  obtain ⟨A0, c0, A1, c1, A2, c2, hb, hg, hr0, hr1, hr2⟩ := h
  exact Kd.Q_types ho hb ht
theorem IsS103.own_neQ {w0 W : World} {g : Nat} {f0 : List (S109)} {f1 : List Bool} {f2 : List (S156)} {f3 : Bool} {α : Type} {d : Kd α} {e : Nat} {base : Nat} {ok : Nat → Prop} {v : Value} {xs : List α} (h : IsS103 w0 W g f0 f1 f2 f3) (ho : d.Q e W base ok v xs) (ht : e ≠ 103) : some g ≠ v.ownBlock := by
  obtain ⟨A0, c0, A1, c1, A2, c2, hb, hg, hr0, hr1, hr2⟩ := h
  exact Kd.Q_ne ho hb ht
theorem IsS103.apartS {w0 W : World} {g : Nat} {f0 : List (S109)} {f1 : List Bool} {f2 : List (S156)} {f3 : Bool} {α : Type} {d : Kd α} {e : Nat} {base : Nat} {ok : Nat → Prop} {v : Value} {xs : List α} (h : IsS103 w0 W g f0 f1 f2 f3) (ho : d.S e W base ok v xs) (ht : ∀ q, q ∈ e :: d.E → q ≠ 103) : d.S e W base (fun k => ok k ∧ k ≠ g) v xs := by
  obtain ⟨A0, c0, A1, c1, A2, c2, hb, hg, hr0, hr1, hr2⟩ := h
  exact Kd.S_types ho hb ht
theorem IsS103.own_neS {w0 W : World} {g : Nat} {f0 : List (S109)} {f1 : List Bool} {f2 : List (S156)} {f3 : Bool} {α : Type} {d : Kd α} {e : Nat} {base : Nat} {ok : Nat → Prop} {v : Value} {xs : List α} (h : IsS103 w0 W g f0 f1 f2 f3) (ho : d.S e W base ok v xs) (ht : e ≠ 103) : some g ≠ v.ownBlock := by
  obtain ⟨A0, c0, A1, c1, A2, c2, hb, hg, hr0, hr1, hr2⟩ := h
  exact Kd.S_ne ho hb ht
theorem IsS103.lt {w0 W : World} {g : Nat} {f0 : List (S109)} {f1 : List Bool} {f2 : List (S156)} {f3 : Bool} (h : IsS103 w0 W g f0 f1 f2 f3) : g < W.heap.size := by
  obtain ⟨A0, c0, A1, c1, A2, c2, hb, hg, hr0, hr1, hr2⟩ := h
  exact blk_lt hb
theorem IsS103.ge {w0 W : World} {g : Nat} {f0 : List (S109)} {f1 : List Bool} {f2 : List (S156)} {f3 : Bool} (h : IsS103 w0 W g f0 f1 f2 f3) : w0.heap.size ≤ g := by
  obtain ⟨A0, c0, A1, c1, A2, c2, hb, hg, hr0, hr1, hr2⟩ := h
  exact hg
theorem IsS103.ne_blk {w0 W : World} {g : Nat} {f0 : List (S109)} {f1 : List Bool} {f2 : List (S156)} {f3 : Bool} {a : Nat} {cs : Array Value} {t : TypeId} {fr : Nat × Nat} (h : IsS103 w0 W g f0 f1 f2 f3) (hb2 : W.heap[a]? = some (.cells cs t fr)) (ht : t ≠ 103) : g ≠ a := by
  obtain ⟨A0, c0, A1, c1, A2, c2, hb, hg, hr0, hr1, hr2⟩ := h
  rintro rfl
  rw [hb] at hb2
  injection hb2 with hb2
  injection hb2 with _ ht2
  exact ht ht2.symm
theorem IsS103.far {w0 W : World} {g : Nat} {f0 : List (S109)} {f1 : List Bool} {f2 : List (S156)} {f3 : Bool} {p : Addr} (h : IsS103 w0 W g f0 f1 f2 f3) (hne : g ≠ p.block) (u : Value) : IsS103 w0 (W.setCell p u) g f0 f1 f2 f3 := by
  obtain ⟨A0, c0, A1, c1, A2, c2, hb, hg, hr0, hr1, hr2⟩ := h
  exact ⟨A0, c0, A1, c1, A2, c2, blk_far hb hne u, hg, hr0, hr1, hr2⟩
theorem cellS103_0 {W : World} {g : Nat} {A0 : Option Addr} {c0 : Nat} {A1 : Option Addr} {c1 : Nat} {A2 : Option Addr} {c2 : Nat} {f0 : List (S109)} {f1 : List Bool} {f2 : List (S156)} {f3 : Bool} (h : W.heap[g]? = some (.cells #[.slice A0 f0.length c0, .slice A1 f1.length c1, .slice A2 f2.length c2, .bool f3] 103 (0, 0))) : W.cell? ⟨g, 0, none⟩ = some (.slice A0 f0.length c0) := (blk_cell h 0).trans rfl
theorem cellS103_1 {W : World} {g : Nat} {A0 : Option Addr} {c0 : Nat} {A1 : Option Addr} {c1 : Nat} {A2 : Option Addr} {c2 : Nat} {f0 : List (S109)} {f1 : List Bool} {f2 : List (S156)} {f3 : Bool} (h : W.heap[g]? = some (.cells #[.slice A0 f0.length c0, .slice A1 f1.length c1, .slice A2 f2.length c2, .bool f3] 103 (0, 0))) : W.cell? ⟨g, 1, none⟩ = some (.slice A1 f1.length c1) := (blk_cell h 1).trans rfl
theorem cellS103_2 {W : World} {g : Nat} {A0 : Option Addr} {c0 : Nat} {A1 : Option Addr} {c1 : Nat} {A2 : Option Addr} {c2 : Nat} {f0 : List (S109)} {f1 : List Bool} {f2 : List (S156)} {f3 : Bool} (h : W.heap[g]? = some (.cells #[.slice A0 f0.length c0, .slice A1 f1.length c1, .slice A2 f2.length c2, .bool f3] 103 (0, 0))) : W.cell? ⟨g, 2, none⟩ = some (.slice A2 f2.length c2) := (blk_cell h 2).trans rfl
theorem cellS103_3 {W : World} {g : Nat} {A0 : Option Addr} {c0 : Nat} {A1 : Option Addr} {c1 : Nat} {A2 : Option Addr} {c2 : Nat} {f0 : List (S109)} {f1 : List Bool} {f2 : List (S156)} {f3 : Bool} (h : W.heap[g]? = some (.cells #[.slice A0 f0.length c0, .slice A1 f1.length c1, .slice A2 f2.length c2, .bool f3] 103 (0, 0))) : W.cell? ⟨g, 3, none⟩ = some (.bool f3) := (blk_cell h 3).trans rfl
theorem IsS103.set_3 {w0 W : World} {g : Nat} {f0 : List (S109)} {f1 : List Bool} {f2 : List (S156)} {f3 : Bool} (h : IsS103 w0 W g f0 f1 f2 f3) (x : Bool) : IsS103 w0 (W.setCell ⟨g, 3, none⟩ (.bool x)) g f0 f1 f2 x := by
  obtain ⟨A0, c0, A1, c1, A2, c2, hb, hg, hr0, hr1, hr2⟩ := h
  exact ⟨A0, c0, A1, c1, A2, c2, by simpa using blk_set hb 3 (.bool x), hg, hr0, hr1, hr2⟩
theorem IsS103.new (w0 W : World) (A0 : Option Addr) (c0 : Nat) (A1 : Option Addr) (c1 : Nat) (A2 : Option Addr) (c2 : Nat) (f0 : List (S109)) (f1 : List Bool) (f2 : List (S156)) (f3 : Bool) (hB : Below w0.heap.size w0 W) (hr0 : Kd.C k109 w0 A0 f0.length f0) (hr1 : Kd.C Kd.bool w0 A1 f1.length f1) (hr2 : Kd.C k156 w0 A2 f2.length f2) : IsS103 w0 (W.alloc (.cells #[.slice A0 f0.length c0, .slice A1 f1.length c1, .slice A2 f2.length c2, .bool f3] 103)) W.heap.size f0 f1 f2 f3 := ⟨A0, c0, A1, c1, A2, c2, by simpa using heap_alloc_new W _, hB.size, hr0, hr1, hr2⟩

/-! ### host_New: function 23 -/
def host_New.f  : Option ((List (S109)) × List Bool × (List (S156)) × Bool) := some (([] : List (S109)), ([] : List Bool), ([] : List (S156)), true)
set_option maxHeartbeats 8000000 in
set_option maxRecDepth 100000 in
theorem host_New.calls  (r1 : List (S109)) (r2 : List Bool) (r3 : List (S156)) (r4 : Bool) (w0 w : World) (hB : Below w0.heap.size w0 w) (h : host_New.f  = some (r1, r2, r3, r4)) :
    Calls Try.prog 23 #[] w fun e w' => ∃ g_ : Nat, e = .returned (.pointer (some ⟨g_, 0, none⟩)) ∧ IsS103 w0 w' g_ r1 r2 r3 r4 ∧ Below w0.heap.size w0 w' ∧ Below w.heap.size w w' := by
  have hu103 := Try.underlying103
  have HBW := Aside0.mk (Below.refl w.heap.size w)
  have HW0 := Aside0.mk hB.size
  have HB := Aside0.mk hB
  clear hB
  have H : (some (([] : List (S109)), ([] : List Bool), ([] : List (S156)), true)) = some (r1, r2, r3, r4) := h
  clear h
  simp only [Option.some.injEq, Prod.mk.injEq] at H
  obtain ⟨rfl, rfl, rfl, rfl⟩ := H
  go_enter Try.func23, Try.ntmps23
  go_wp2_with (first | ((with_reducible refine gate_dst (N := 2) rfl ?_); refine box_event ?hg (N := 2) ?hd (cs := #[.slice none 0 0, .slice none 0 0, .slice none 0 0, .bool true]) (t := 103) ?hr ?_; (case hd => rfl); (case hg => rfl); (case hr => first | (go_simp; done) | (go_simp; rfl)); intro gb101 hg w1 hbox hb; have n0_ := Aside0.mk (below_step HBW.out hb); have n1_ := Aside0.mk (below_step (by repeat (first | (with_reducible first | exact HB.out | apply below_alloc | apply pw_below_drewN | apply below_drew1) | exact HB.out)) hb); have n2_ := Aside0.mk (hbox); have n3_ := Aside0.mk ((by rw [hg]; exact (below_size (by repeat (first | (with_reducible first | exact HBW.out | apply below_alloc | apply pw_below_drewN | apply below_drew1) | exact HBW.out))) : w.heap.size ≤ gb101)); have n4_ := Aside0.mk ((Nat.le_trans HW0.out (by rw [hg]; exact (below_size (by repeat (first | (with_reducible first | exact HBW.out | apply below_alloc | apply pw_below_drewN | apply below_drew1) | exact HBW.out))) : w.heap.size ≤ gb101) : w0.heap.size ≤ gb101)); clear HBW; clear HB; have HBW := n0_; have HB := n1_; have BK101 := n2_; have GW101 := n3_; have GE101 := n4_; clear n0_ n1_ n2_ n3_ n4_; clear hb hbox hg))
  go_ret
  exact ⟨_, rfl, (show IsS103 w0 _ gb101 ([] : List (S109)) ([] : List Bool) ([] : List (S156)) true from ⟨none, 0, none, 0, none, 0, by (with_reducible repeat (first | refine blk_drewN ?_ _ | refine blk_drew ?_ | refine blk_alloc ?_ _)); exact BK101.out, GE101.out, (Kd.C_nil _ _), (Kd.C_nil _ _), (Kd.C_nil _ _)⟩), by repeat (first | (with_reducible first | exact HB.out | apply below_alloc | apply pw_below_drewN | apply below_drew1 | refine below_set ?_ GE101.out) | exact HB.out), by repeat (first | (with_reducible first | exact HBW.out | apply below_alloc | apply pw_below_drewN | apply below_drew1 | refine below_set ?_ GW101.out) | exact HBW.out)⟩

-- NOT PRINTED: function 57 (host_Queue_is)

-- NOT PRINTED: function 82 (slices_Clone_uint64_uint64)

-- NOT PRINTED: function 59 (host_ownAnswer)

/-! ### host_same: function 61 -/
def host_same.f (a0 : Bool) : Option (Bool) := some a0
set_option maxHeartbeats 8000000 in
set_option maxRecDepth 100000 in
theorem host_same.calls (a0 : Bool) (r : Bool) (w : World) (h : host_same.f a0 = some r) :
    Calls Try.prog 61 #[.bool a0] w fun e w' => e = .returned (.bool r) ∧ Drawn0 w w' := by
  have H : (some a0) = some r := h
  clear h
  obtain rfl := Option.some.inj H
  go_enter Try.func61, Try.ntmps61
  go_wp2
  go_ret
  exact ⟨by first | rfl | (simp; done) | (simp [*]; done), by repeat (first | exact Drawn0.refl _ | apply Drawn0.step)⟩

-- NOT PRINTED: function 24 (host_Queue_Feed)

-- NOT PRINTED: function 66 (api_Call_feed)

-- NOT PRINTED: function 67 (host_ownCall)

-- NOT PRINTED: function 26 (host_Queue_Done)

-- NOT PRINTED: function 69 (slices_Clone_bool_bool)

-- NOT PRINTED: function 31 (host_Queue_Left)

-- NOT PRINTED: function 21 (trunnionlaw32_awake)

/-! ### trunnionlaw32_few: function 22 -/
mutual
def trunnionlaw32_few.l0 : Nat → List (S84) → Int → List (S84) → Int → Int → Option (Bool)
  | 0, _, _, _, _, _ => none
  | k + 1, x0, x1, x12, x13, x14 => if x14 < x13 then (if 0 ≤ x14 then (if x14 < (x12.length : Int) then (trunnionlaw32_few.l1 k x0 x1 (wrap64 ((wrap64 ((((rd_T84 x12 x14).f1.f0).length : Int) + (((rd_T84 x12 x14).f1.f1).length : Int))) + (((rd_T84 x12 x14).f2.f6).length : Int))) x12 x13 x14 ((rd_T84 x12 x14).f1.f0) (((rd_T84 x12 x14).f1.f0).length : Int) 0 ((rd_T84 x12 x14).f0) ((rd_T84 x12 x14).f1.f0) ((rd_T84 x12 x14).f1.f1) ((rd_T84 x12 x14).f2.f0) ((rd_T84 x12 x14).f2.f1) ((rd_T84 x12 x14).f2.f2) ((rd_T84 x12 x14).f2.f3) ((rd_T84 x12 x14).f2.f4) ((rd_T84 x12 x14).f2.f5) ((rd_T84 x12 x14).f2.f6)) else (none)) else (none)) else (some (decide ((x0.length : Int) ≤ x1)))
def trunnionlaw32_few.l1 : Nat → List (S84) → Int → Int → List (S84) → Int → Int → List (S109) → Int → Int → Int → List (S109) → List Bool → Int → List Int → Int → Int → Int → Int → List (S156) → Option (Bool)
  | 0, _, _, _, _, _, _, _, _, _, _, _, _, _, _, _, _, _, _, _ => none
  | k + 1, x0, x1, x7, x12, x13, x14, x34, x35, x36, x123000, x123001, x123002, x123003, x123004, x123005, x123006, x123007, x123008, x123009 => if x36 < x35 then (if 0 ≤ x36 then (if x36 < (x34.length : Int) then (trunnionlaw32_few.l1 k x0 x1 (wrap64 (x7 + (((rd_T109 x34 x36).f1).length : Int))) x12 x13 x14 x34 x35 (wrap64 (x36 + 1)) x123000 x123001 x123002 x123003 x123004 x123005 x123006 x123007 x123008 x123009) else (none)) else (none)) else (trunnionlaw32_few.l2 k x0 x1 x7 x12 x13 x14 x123009 (x123009.length : Int) 0)
def trunnionlaw32_few.l2 : Nat → List (S84) → Int → Int → List (S84) → Int → Int → List (S156) → Int → Int → Option (Bool)
  | 0, _, _, _, _, _, _, _, _, _ => none
  | k + 1, x0, x1, x7, x12, x13, x14, x48, x49, x50 => if x50 < x49 then (if 0 ≤ x50 then (if x50 < (x48.length : Int) then (trunnionlaw32_few.l2 k x0 x1 (wrap64 (x7 + (wrap64 ((((rd_T156 x48 x50).f1).length : Int) + (((rd_T156 x48 x50).f0).size : Int))))) x12 x13 x14 x48 x49 (wrap64 (x50 + 1))) else (none)) else (none)) else (if x7 > 100 then (some false) else (trunnionlaw32_few.l0 k x0 x1 x12 x13 (wrap64 (x14 + 1))))
end
def trunnionlaw32_few.f (k : Nat) (l0 : List (S84)) (a1 : Int) : Option (Bool) := trunnionlaw32_few.l0 k l0 a1 l0 (l0.length : Int) 0
theorem trunnionlaw32_few.mono_l : ∀ k, (∀ y0 y1 y2 y3 y4, LeO (trunnionlaw32_few.l0 k y0 y1 y2 y3 y4) (trunnionlaw32_few.l0 (k + 1) y0 y1 y2 y3 y4)) ∧ (∀ y0 y1 y2 y3 y4 y5 y6 y7 y8 y9 y10 y11 y12 y13 y14 y15 y16 y17 y18, LeO (trunnionlaw32_few.l1 k y0 y1 y2 y3 y4 y5 y6 y7 y8 y9 y10 y11 y12 y13 y14 y15 y16 y17 y18) (trunnionlaw32_few.l1 (k + 1) y0 y1 y2 y3 y4 y5 y6 y7 y8 y9 y10 y11 y12 y13 y14 y15 y16 y17 y18)) ∧ (∀ y0 y1 y2 y3 y4 y5 y6 y7 y8, LeO (trunnionlaw32_few.l2 k y0 y1 y2 y3 y4 y5 y6 y7 y8) (trunnionlaw32_few.l2 (k + 1) y0 y1 y2 y3 y4 y5 y6 y7 y8))
  | 0 => ⟨fun _ _ _ _ _ r h => by simp [trunnionlaw32_few.l0] at h, fun _ _ _ _ _ _ _ _ _ _ _ _ _ _ _ _ _ _ _ r h => by simp [trunnionlaw32_few.l1] at h, fun _ _ _ _ _ _ _ _ _ r h => by simp [trunnionlaw32_few.l2] at h⟩
  | k + 1 => by
    obtain ⟨ih0, ih1, ih2⟩ := trunnionlaw32_few.mono_l k
    refine ⟨?_, ?_, ?_⟩
    · intro y0 y1 y2 y3 y4
      unfold trunnionlaw32_few.l0
      repeat' first
      | (with_reducible exact ih0 _ _ _ _ _)
      | (with_reducible exact ih1 _ _ _ _ _ _ _ _ _ _ _ _ _ _ _ _ _ _ _)
      | (with_reducible exact ih2 _ _ _ _ _ _ _ _ _)
      | (with_reducible exact LeO.refl _)
      | (with_reducible exact LeO.none _)
      | (with_reducible refine LeO.ite ?_ ?_)
      | (with_reducible refine LeO.bind ?_ (fun _ => ?_))
      | exact ih0 _ _ _ _ _
      | exact ih1 _ _ _ _ _ _ _ _ _ _ _ _ _ _ _ _ _ _ _
      | exact ih2 _ _ _ _ _ _ _ _ _
      | exact LeO.none _
      | refine LeO.ite ?_ ?_
      | refine LeO.bind ?_ (fun _ => ?_)
    · intro y0 y1 y2 y3 y4 y5 y6 y7 y8 y9 y10 y11 y12 y13 y14 y15 y16 y17 y18
      unfold trunnionlaw32_few.l1
      repeat' first
      | (with_reducible exact ih0 _ _ _ _ _)
      | (with_reducible exact ih1 _ _ _ _ _ _ _ _ _ _ _ _ _ _ _ _ _ _ _)
      | (with_reducible exact ih2 _ _ _ _ _ _ _ _ _)
      | (with_reducible exact LeO.refl _)
      | (with_reducible exact LeO.none _)
      | (with_reducible refine LeO.ite ?_ ?_)
      | (with_reducible refine LeO.bind ?_ (fun _ => ?_))
      | exact ih0 _ _ _ _ _
      | exact ih1 _ _ _ _ _ _ _ _ _ _ _ _ _ _ _ _ _ _ _
      | exact ih2 _ _ _ _ _ _ _ _ _
      | exact LeO.none _
      | refine LeO.ite ?_ ?_
      | refine LeO.bind ?_ (fun _ => ?_)
    · intro y0 y1 y2 y3 y4 y5 y6 y7 y8
      unfold trunnionlaw32_few.l2
      repeat' first
      | (with_reducible exact ih0 _ _ _ _ _)
      | (with_reducible exact ih1 _ _ _ _ _ _ _ _ _ _ _ _ _ _ _ _ _ _ _)
      | (with_reducible exact ih2 _ _ _ _ _ _ _ _ _)
      | (with_reducible exact LeO.refl _)
      | (with_reducible exact LeO.none _)
      | (with_reducible refine LeO.ite ?_ ?_)
      | (with_reducible refine LeO.bind ?_ (fun _ => ?_))
      | exact ih0 _ _ _ _ _
      | exact ih1 _ _ _ _ _ _ _ _ _ _ _ _ _ _ _ _ _ _ _
      | exact ih2 _ _ _ _ _ _ _ _ _
      | exact LeO.none _
      | refine LeO.ite ?_ ?_
      | refine LeO.bind ?_ (fun _ => ?_)
theorem trunnionlaw32_few.mono : ∀ a0 a1 k, LeO (trunnionlaw32_few.f k a0 a1) (trunnionlaw32_few.f (k + 1) a0 a1) := by
  intro a0 a1 k
  obtain ⟨ih0, ih1, ih2⟩ := trunnionlaw32_few.mono_l k
  unfold trunnionlaw32_few.f
  repeat' first
      | (with_reducible exact ih0 _ _ _ _ _)
      | (with_reducible exact ih1 _ _ _ _ _ _ _ _ _ _ _ _ _ _ _ _ _ _ _)
      | (with_reducible exact ih2 _ _ _ _ _ _ _ _ _)
      | (with_reducible exact LeO.refl _)
      | (with_reducible exact LeO.none _)
      | (with_reducible refine LeO.ite ?_ ?_)
      | (with_reducible refine LeO.bind ?_ (fun _ => ?_))
      | exact ih0 _ _ _ _ _
      | exact ih1 _ _ _ _ _ _ _ _ _ _ _ _ _ _ _ _ _ _ _
      | exact ih2 _ _ _ _ _ _ _ _ _
      | exact LeO.none _
      | refine LeO.ite ?_ ?_
      | refine LeO.bind ?_ (fun _ => ?_)
set_option maxHeartbeats 8000000 in
set_option maxRecDepth 100000 in
theorem trunnionlaw32_few.calls (k : Nat) (A0 : Option Addr) (c0 : Nat) (l0 : List (S84)) (a1 : Int) (r : Bool) (w : World) (hr0 : Kd.C k84 w A0 l0.length l0) (hc0 : l0.length ≤ c0) (h : trunnionlaw32_few.f k l0 a1 = some r) :
    Calls Try.prog 22 #[.slice A0 l0.length c0, .int .i64 a1] w fun e w' => e = .returned (.bool r) ∧ Below w.heap.size w w' := by
  have hu84 := Try.underlying84
  have hu109 := Try.underlying109
  have hu156 := Try.underlying156
  have HR0 := Aside0.mk hr0
  have HC0 := Aside0.mk hc0
  clear hr0 hc0
  have HB := Aside0.mk (Below.refl w.heap.size w)
  have H : (trunnionlaw32_few.l0 k l0 a1 l0 (l0.length : Int) 0) = some r := h
  clear h
  have H' := Aside0.mk H
  clear H
  go_enter Try.func22, Try.ntmps22
  go_wp2
  go_loopg [14] k (fun kq v14 w' => ∃ (x14_1 : Int), v14 = .int .i64 x14_1 ∧ Aside0 (trunnionlaw32_few.l0 kq l0 a1 l0 (l0.length : Int) x14_1 = some r) ∧ Aside0 (kq ≤ k) ∧ Aside0 (Below w.heap.size w w'))
  case atStart => exact ⟨(0), (by first | rfl | (simp; done) | (simp [*]; done)), H', ⟨Nat.le_refl _⟩, ⟨by repeat (first | (with_reducible first | exact HB.out | apply below_alloc | apply pw_below_drewN | apply below_drew1) | exact HB.out)⟩⟩
  case round =>
    clear H'
    try clear c2
    try clear p2
    obtain ⟨x14_1, rfl, HA, HK1, HB⟩ := hrel
    cases gk with
    | zero => exact absurd HA.out (by simp [trunnionlaw32_few.l0])
    | succ k1 =>
      have H := HA.out
      clear HA
      simp only [trunnionlaw32_few.l0] at H
      by_cases c3 : x14_1 < (l0.length : Int)
      · rw [if_pos c3] at H
        have c3b0 : decide (x14_1 < (l0.length : Int)) = true := decide_eq_true c3
        clear c3
        by_cases c4 : 0 ≤ x14_1
        · rw [if_pos c4] at H
          have c4b0 : decide (0 ≤ x14_1) = true := decide_eq_true c4
          clear c4
          by_cases c5 : x14_1 < (l0.length : Int)
          · rw [if_pos c5] at H
            have c5b0 : decide (x14_1 < (l0.length : Int)) = true := decide_eq_true c5
            clear c5
            have H' := Aside0.mk H
            clear H
            have p121 : 0 ≤ (x14_1 : Int) := of_decide_eq_true (by first | (with_reducible assumption) | assumption)
            have q121 : x14_1 < (l0.length : Int) := of_decide_eq_true (by first | (with_reducible assumption) | assumption)
            obtain ⟨ad121, A121_1, c121_1, A121_2, c121_2, A121_4, c121_4, A121_9, c121_9, e121, hx121_0, hx121_1, hx121_2, hx121_3, hx121_4, hx121_5, hx121_6, hx121_7, hx121_8, hx121_9, hl121_1, hi121_1, hl121_2, hi121_2, hl121_4, hi121_4, hl121_9, hi121_9⟩ := at_T84 HR0.out x14_1 p121 q121
            cases e121
            replace hx121_0 := (HB.out.cell (World.block_lt_of_cell? w _ hx121_0)).trans hx121_0
            replace hx121_1 := (HB.out.cell (World.block_lt_of_cell? w _ hx121_1)).trans hx121_1
            replace hx121_2 := (HB.out.cell (World.block_lt_of_cell? w _ hx121_2)).trans hx121_2
            replace hx121_3 := (HB.out.cell (World.block_lt_of_cell? w _ hx121_3)).trans hx121_3
            replace hx121_4 := (HB.out.cell (World.block_lt_of_cell? w _ hx121_4)).trans hx121_4
            replace hx121_5 := (HB.out.cell (World.block_lt_of_cell? w _ hx121_5)).trans hx121_5
            replace hx121_6 := (HB.out.cell (World.block_lt_of_cell? w _ hx121_6)).trans hx121_6
            replace hx121_7 := (HB.out.cell (World.block_lt_of_cell? w _ hx121_7)).trans hx121_7
            replace hx121_8 := (HB.out.cell (World.block_lt_of_cell? w _ hx121_8)).trans hx121_8
            replace hx121_9 := (HB.out.cell (World.block_lt_of_cell? w _ hx121_9)).trans hx121_9
            have HR121_1 := Aside0.mk hi121_1
            have HC121_1 := Aside0.mk hl121_1
            clear hi121_1 hl121_1
            have HR121_2 := Aside0.mk hi121_2
            have HC121_2 := Aside0.mk hl121_2
            clear hi121_2 hl121_2
            have HR121_4 := Aside0.mk hi121_4
            have HC121_4 := Aside0.mk hl121_4
            clear hi121_4 hl121_4
            have HR121_9 := Aside0.mk hi121_9
            have HC121_9 := Aside0.mk hl121_9
            clear hi121_9 hl121_9
            replace p121 := eq_true p121
            replace q121 := eq_true q121
            go_wp2_with (first | ((with_reducible refine gate_dst (N := 6) rfl ?_); refine box_event ?hg (N := 6) ?hd (cs := #[.int .i64 0, .slice none 0 0, .slice none 0 0, .int .i64 0, .slice none 0 0, .int .i64 0, .int .i64 0, .int .i64 0, .int .i64 0, .slice none 0 0]) (t := 84) ?hr ?_; (case hd => rfl); (case hg => rfl); (case hr => first | (go_simp; done) | (go_simp; rfl)); intro gb122 hg w6 hbox hb; have n0_ := Aside0.mk (below_step (by repeat (first | (with_reducible first | exact HB.out | apply below_alloc | apply pw_below_drewN | apply below_drew1) | exact HB.out)) hb); have n1_ := Aside0.mk (hbox); have n2_ := Aside0.mk ((by rw [hg]; exact (below_size (by repeat (first | (with_reducible first | exact HB.out | apply below_alloc | apply pw_below_drewN | apply below_drew1) | exact HB.out))) : w.heap.size ≤ gb122)); have n3_ := Aside0.mk ((by rw [hg]; exact (below_size (by repeat (first | (with_reducible first | exact HB.out | apply below_alloc | apply pw_below_drewN | apply below_drew1) | exact HB.out))) : w.heap.size ≤ gb122)); clear HB; have HB := n0_; have BK122 := n1_; have GW122 := n2_; have GE122 := n3_; clear n0_ n1_ n2_ n3_; clear hb hbox hg; have hcz7_0 : w6.cell? ⟨gb122, 0, none⟩ = some (.int .i64 0) := (blk_cell BK122.out 0).trans rfl; have hcz7_1 : w6.cell? ⟨gb122, 1, none⟩ = some (.slice none 0 0) := (blk_cell BK122.out 1).trans rfl; have hcz7_2 : w6.cell? ⟨gb122, 2, none⟩ = some (.slice none 0 0) := (blk_cell BK122.out 2).trans rfl; have hcz7_3 : w6.cell? ⟨gb122, 3, none⟩ = some (.int .i64 0) := (blk_cell BK122.out 3).trans rfl; have hcz7_4 : w6.cell? ⟨gb122, 4, none⟩ = some (.slice none 0 0) := (blk_cell BK122.out 4).trans rfl; have hcz7_5 : w6.cell? ⟨gb122, 5, none⟩ = some (.int .i64 0) := (blk_cell BK122.out 5).trans rfl; have hcz7_6 : w6.cell? ⟨gb122, 6, none⟩ = some (.int .i64 0) := (blk_cell BK122.out 6).trans rfl; have hcz7_7 : w6.cell? ⟨gb122, 7, none⟩ = some (.int .i64 0) := (blk_cell BK122.out 7).trans rfl; have hcz7_8 : w6.cell? ⟨gb122, 8, none⟩ = some (.int .i64 0) := (blk_cell BK122.out 8).trans rfl; have hcz7_9 : w6.cell? ⟨gb122, 9, none⟩ = some (.slice none 0 0) := (blk_cell BK122.out 9).trans rfl; have hfz7_0 := blk_frozen BK122.out 0; have hfz7_1 := blk_frozen BK122.out 1; have hfz7_2 := blk_frozen BK122.out 2; have hfz7_3 := blk_frozen BK122.out 3; have hfz7_4 := blk_frozen BK122.out 4; have hfz7_5 := blk_frozen BK122.out 5; have hfz7_6 := blk_frozen BK122.out 6; have hfz7_7 := blk_frozen BK122.out 7; have hfz7_8 := blk_frozen BK122.out 8; have hfz7_9 := blk_frozen BK122.out 9))
            go_loopg [7, 36] k1 (fun kq v7 v36 w' => ∃ (x7_2 : Int) (x36_2 : Int), v7 = .int .i64 x7_2 ∧ v36 = .int .i64 x36_2 ∧ Aside0 (trunnionlaw32_few.l1 kq l0 a1 x7_2 l0 (l0.length : Int) x14_1 ((rd_T84 l0 x14_1).f1.f0) (((rd_T84 l0 x14_1).f1.f0).length : Int) x36_2 ((rd_T84 l0 x14_1).f0) ((rd_T84 l0 x14_1).f1.f0) ((rd_T84 l0 x14_1).f1.f1) ((rd_T84 l0 x14_1).f2.f0) ((rd_T84 l0 x14_1).f2.f1) ((rd_T84 l0 x14_1).f2.f2) ((rd_T84 l0 x14_1).f2.f3) ((rd_T84 l0 x14_1).f2.f4) ((rd_T84 l0 x14_1).f2.f5) ((rd_T84 l0 x14_1).f2.f6) = some r) ∧ Aside0 (kq ≤ k1) ∧ Aside0 (w'.heap[gb122]? = some (.cells #[.int .i64 ((rd_T84 l0 x14_1).f0), (.slice A121_1 ((rd_T84 l0 x14_1).f1.f0).length c121_1), (.slice A121_2 ((rd_T84 l0 x14_1).f1.f1).length c121_2), .int .i64 ((rd_T84 l0 x14_1).f2.f0), (.slice A121_4 ((rd_T84 l0 x14_1).f2.f1).length c121_4), .int .i64 ((rd_T84 l0 x14_1).f2.f2), .int .i64 ((rd_T84 l0 x14_1).f2.f3), .int .i64 ((rd_T84 l0 x14_1).f2.f4), .int .i64 ((rd_T84 l0 x14_1).f2.f5), (.slice A121_9 ((rd_T84 l0 x14_1).f2.f6).length c121_9)] 84 (0, 0))) ∧ Aside0 (Below w.heap.size w w'))
            case atStart => exact ⟨(wrap64 ((wrap64 ((((rd_T84 l0 x14_1).f1.f0).length : Int) + (((rd_T84 l0 x14_1).f1.f1).length : Int))) + (((rd_T84 l0 x14_1).f2.f6).length : Int))), (0), (by first | rfl | (simp; done) | (simp [*]; done)), (by first | rfl | (simp; done) | (simp [*]; done)), H', ⟨Nat.le_refl _⟩, ⟨by (with_reducible repeat (first | refine blk_drewN ?_ _ | refine blk_drew ?_ | refine blk_alloc ?_ _)); refine blk_put (cs := #[.int .i64 ((rd_T84 l0 x14_1).f0), .slice A121_1 ((rd_T84 l0 x14_1).f1.f0).length c121_1, .slice A121_2 ((rd_T84 l0 x14_1).f1.f1).length c121_2, .int .i64 ((rd_T84 l0 x14_1).f2.f0), .slice A121_4 ((rd_T84 l0 x14_1).f2.f1).length c121_4, .int .i64 ((rd_T84 l0 x14_1).f2.f2), .int .i64 ((rd_T84 l0 x14_1).f2.f3), .int .i64 ((rd_T84 l0 x14_1).f2.f4), .int .i64 ((rd_T84 l0 x14_1).f2.f5), .slice none 0 0]) ?_ 9 _ rfl; (with_reducible repeat (first | refine blk_drewN ?_ _ | refine blk_drew ?_ | refine blk_alloc ?_ _)); refine blk_put (cs := #[.int .i64 ((rd_T84 l0 x14_1).f0), .slice A121_1 ((rd_T84 l0 x14_1).f1.f0).length c121_1, .slice A121_2 ((rd_T84 l0 x14_1).f1.f1).length c121_2, .int .i64 ((rd_T84 l0 x14_1).f2.f0), .slice A121_4 ((rd_T84 l0 x14_1).f2.f1).length c121_4, .int .i64 ((rd_T84 l0 x14_1).f2.f2), .int .i64 ((rd_T84 l0 x14_1).f2.f3), .int .i64 ((rd_T84 l0 x14_1).f2.f4), .int .i64 0, .slice none 0 0]) ?_ 8 _ rfl; (with_reducible repeat (first | refine blk_drewN ?_ _ | refine blk_drew ?_ | refine blk_alloc ?_ _)); refine blk_put (cs := #[.int .i64 ((rd_T84 l0 x14_1).f0), .slice A121_1 ((rd_T84 l0 x14_1).f1.f0).length c121_1, .slice A121_2 ((rd_T84 l0 x14_1).f1.f1).length c121_2, .int .i64 ((rd_T84 l0 x14_1).f2.f0), .slice A121_4 ((rd_T84 l0 x14_1).f2.f1).length c121_4, .int .i64 ((rd_T84 l0 x14_1).f2.f2), .int .i64 ((rd_T84 l0 x14_1).f2.f3), .int .i64 0, .int .i64 0, .slice none 0 0]) ?_ 7 _ rfl; (with_reducible repeat (first | refine blk_drewN ?_ _ | refine blk_drew ?_ | refine blk_alloc ?_ _)); refine blk_put (cs := #[.int .i64 ((rd_T84 l0 x14_1).f0), .slice A121_1 ((rd_T84 l0 x14_1).f1.f0).length c121_1, .slice A121_2 ((rd_T84 l0 x14_1).f1.f1).length c121_2, .int .i64 ((rd_T84 l0 x14_1).f2.f0), .slice A121_4 ((rd_T84 l0 x14_1).f2.f1).length c121_4, .int .i64 ((rd_T84 l0 x14_1).f2.f2), .int .i64 0, .int .i64 0, .int .i64 0, .slice none 0 0]) ?_ 6 _ rfl; (with_reducible repeat (first | refine blk_drewN ?_ _ | refine blk_drew ?_ | refine blk_alloc ?_ _)); refine blk_put (cs := #[.int .i64 ((rd_T84 l0 x14_1).f0), .slice A121_1 ((rd_T84 l0 x14_1).f1.f0).length c121_1, .slice A121_2 ((rd_T84 l0 x14_1).f1.f1).length c121_2, .int .i64 ((rd_T84 l0 x14_1).f2.f0), .slice A121_4 ((rd_T84 l0 x14_1).f2.f1).length c121_4, .int .i64 0, .int .i64 0, .int .i64 0, .int .i64 0, .slice none 0 0]) ?_ 5 _ rfl; (with_reducible repeat (first | refine blk_drewN ?_ _ | refine blk_drew ?_ | refine blk_alloc ?_ _)); refine blk_put (cs := #[.int .i64 ((rd_T84 l0 x14_1).f0), .slice A121_1 ((rd_T84 l0 x14_1).f1.f0).length c121_1, .slice A121_2 ((rd_T84 l0 x14_1).f1.f1).length c121_2, .int .i64 ((rd_T84 l0 x14_1).f2.f0), .slice none 0 0, .int .i64 0, .int .i64 0, .int .i64 0, .int .i64 0, .slice none 0 0]) ?_ 4 _ rfl; (with_reducible repeat (first | refine blk_drewN ?_ _ | refine blk_drew ?_ | refine blk_alloc ?_ _)); refine blk_put (cs := #[.int .i64 ((rd_T84 l0 x14_1).f0), .slice A121_1 ((rd_T84 l0 x14_1).f1.f0).length c121_1, .slice A121_2 ((rd_T84 l0 x14_1).f1.f1).length c121_2, .int .i64 0, .slice none 0 0, .int .i64 0, .int .i64 0, .int .i64 0, .int .i64 0, .slice none 0 0]) ?_ 3 _ rfl; (with_reducible repeat (first | refine blk_drewN ?_ _ | refine blk_drew ?_ | refine blk_alloc ?_ _)); refine blk_put (cs := #[.int .i64 ((rd_T84 l0 x14_1).f0), .slice A121_1 ((rd_T84 l0 x14_1).f1.f0).length c121_1, .slice none 0 0, .int .i64 0, .slice none 0 0, .int .i64 0, .int .i64 0, .int .i64 0, .int .i64 0, .slice none 0 0]) ?_ 2 _ rfl; (with_reducible repeat (first | refine blk_drewN ?_ _ | refine blk_drew ?_ | refine blk_alloc ?_ _)); refine blk_put (cs := #[.int .i64 ((rd_T84 l0 x14_1).f0), .slice none 0 0, .slice none 0 0, .int .i64 0, .slice none 0 0, .int .i64 0, .int .i64 0, .int .i64 0, .int .i64 0, .slice none 0 0]) ?_ 1 _ rfl; (with_reducible repeat (first | refine blk_drewN ?_ _ | refine blk_drew ?_ | refine blk_alloc ?_ _)); refine blk_put (cs := #[.int .i64 0, .slice none 0 0, .slice none 0 0, .int .i64 0, .slice none 0 0, .int .i64 0, .int .i64 0, .int .i64 0, .int .i64 0, .slice none 0 0]) ?_ 0 _ rfl; (with_reducible repeat (first | refine blk_drewN ?_ _ | refine blk_drew ?_ | refine blk_alloc ?_ _)); exact BK122.out⟩, ⟨by repeat (first | (with_reducible first | exact HB.out | apply below_alloc | apply pw_below_drewN | apply below_drew1 | refine below_set ?_ GE122.out) | exact HB.out)⟩⟩
            case round =>
              clear H'
              try clear c1
              try clear p1
              try clear q1
              try clear hx1
              try clear c2
              try clear p2
              try clear c3
              try clear c3b0
              try clear c4
              try clear c4b0
              try clear c5
              try clear c5b0
              try clear p6
              try clear hcz7_0
              try clear hcz7_1
              try clear hcz7_2
              try clear hcz7_3
              try clear hcz7_4
              try clear hcz7_5
              try clear hcz7_6
              try clear hcz7_7
              try clear hcz7_8
              try clear hcz7_9
              try clear hfz7_0
              try clear hfz7_1
              try clear hfz7_2
              try clear hfz7_3
              try clear hfz7_4
              try clear hfz7_5
              try clear hfz7_6
              try clear hfz7_7
              try clear hfz7_8
              try clear hfz7_9
              try clear hx121_0
              try clear hx121_1
              try clear hx121_2
              try clear hx121_3
              try clear hx121_4
              try clear hx121_5
              try clear hx121_6
              try clear hx121_7
              try clear hx121_8
              try clear hx121_9
              try clear p121
              try clear p2
              try clear q121
              obtain ⟨x7_2, x36_2, rfl, rfl, HA, HK2, BK122, HB⟩ := hrel
              cases gk with
              | zero => exact absurd HA.out (by simp [trunnionlaw32_few.l1])
              | succ k2 =>
                have H := HA.out
                clear HA
                simp only [trunnionlaw32_few.l1] at H
                by_cases c8 : x36_2 < (((rd_T84 l0 x14_1).f1.f0).length : Int)
                · rw [if_pos c8] at H
                  have c8b0 : decide (x36_2 < (((rd_T84 l0 x14_1).f1.f0).length : Int)) = true := decide_eq_true c8
                  clear c8
                  by_cases c9 : 0 ≤ x36_2
                  · rw [if_pos c9] at H
                    have c9b0 : decide (0 ≤ x36_2) = true := decide_eq_true c9
                    clear c9
                    by_cases c10 : x36_2 < (((rd_T84 l0 x14_1).f1.f0).length : Int)
                    · rw [if_pos c10] at H
                      have c10b0 : decide (x36_2 < (((rd_T84 l0 x14_1).f1.f0).length : Int)) = true := decide_eq_true c10
                      clear c10
                      have H' := Aside0.mk H
                      clear H
                      have p123 : 0 ≤ (x36_2 : Int) := of_decide_eq_true (by first | (with_reducible assumption) | assumption)
                      have q123 : x36_2 < (((rd_T84 l0 x14_1).f1.f0).length : Int) := of_decide_eq_true (by first | (with_reducible assumption) | assumption)
                      obtain ⟨ad123, A123_1, c123_1, e123, hx123_0, hx123_1, hl123_1, hi123_1⟩ := at_T109 HR121_1.out x36_2 p123 q123
                      cases e123
                      replace hx123_0 := (HB.out.cell (World.block_lt_of_cell? w _ hx123_0)).trans hx123_0
                      replace hx123_1 := (HB.out.cell (World.block_lt_of_cell? w _ hx123_1)).trans hx123_1
                      have HR123_1 := Aside0.mk hi123_1
                      have HC123_1 := Aside0.mk hl123_1
                      clear hi123_1 hl123_1
                      replace p123 := eq_true p123
                      replace q123 := eq_true q123
                      go_wp2_with (first | ((with_reducible refine gate_dst (N := 9) rfl ?_); refine box_event ?hg (N := 9) ?hd (cs := #[.bool false, .slice none 0 0]) (t := 109) ?hr ?_; (case hd => rfl); (case hg => rfl); (case hr => first | (go_simp; done) | (go_simp; rfl)); intro gb124 hg w11 hbox hb; have n0_ := Aside0.mk (blk_below (g := gb122) (o := .cells #[.int .i64 ((rd_T84 l0 x14_1).f0), .slice (some ad123) ((rd_T84 l0 x14_1).f1.f0).length c121_1, .slice A121_2 ((rd_T84 l0 x14_1).f1.f1).length c121_2, .int .i64 ((rd_T84 l0 x14_1).f2.f0), .slice A121_4 ((rd_T84 l0 x14_1).f2.f1).length c121_4, .int .i64 ((rd_T84 l0 x14_1).f2.f2), .int .i64 ((rd_T84 l0 x14_1).f2.f3), .int .i64 ((rd_T84 l0 x14_1).f2.f4), .int .i64 ((rd_T84 l0 x14_1).f2.f5), .slice A121_9 ((rd_T84 l0 x14_1).f2.f6).length c121_9] 84 (0, 0)) (by (with_reducible repeat (first | refine blk_drewN ?_ _ | refine blk_drew ?_ | refine blk_alloc ?_ _)); exact BK122.out) hb); have n1_ := Aside0.mk (below_step (by repeat (first | (with_reducible first | exact HB.out | apply below_alloc | apply pw_below_drewN | apply below_drew1 | refine below_set ?_ GE122.out) | exact HB.out)) hb); have n2_ := Aside0.mk (hbox); have n3_ := Aside0.mk ((by rw [hg]; exact (below_size (by repeat (first | (with_reducible first | exact HB.out | apply below_alloc | apply pw_below_drewN | apply below_drew1 | refine below_set ?_ GE122.out) | exact HB.out))) : w.heap.size ≤ gb124)); have n4_ := Aside0.mk ((by rw [hg]; exact (below_size (by repeat (first | (with_reducible first | exact HB.out | apply below_alloc | apply pw_below_drewN | apply below_drew1 | refine below_set ?_ GE122.out) | exact HB.out))) : w.heap.size ≤ gb124)); have n5_ := Aside0.mk ((by rw [hg]; exact Nat.ne_of_lt (blk_lt (g := gb122) (o := .cells #[.int .i64 ((rd_T84 l0 x14_1).f0), .slice (some ad123) ((rd_T84 l0 x14_1).f1.f0).length c121_1, .slice A121_2 ((rd_T84 l0 x14_1).f1.f1).length c121_2, .int .i64 ((rd_T84 l0 x14_1).f2.f0), .slice A121_4 ((rd_T84 l0 x14_1).f2.f1).length c121_4, .int .i64 ((rd_T84 l0 x14_1).f2.f2), .int .i64 ((rd_T84 l0 x14_1).f2.f3), .int .i64 ((rd_T84 l0 x14_1).f2.f4), .int .i64 ((rd_T84 l0 x14_1).f2.f5), .slice A121_9 ((rd_T84 l0 x14_1).f2.f6).length c121_9] 84 (0, 0)) (by (with_reducible repeat (first | refine blk_drewN ?_ _ | refine blk_drew ?_ | refine blk_alloc ?_ _)); exact BK122.out)) : gb122 ≠ gb124)); have n6_ := Aside0.mk ((by rw [hg]; exact Nat.ne_of_gt (blk_lt (g := gb122) (o := .cells #[.int .i64 ((rd_T84 l0 x14_1).f0), .slice (some ad123) ((rd_T84 l0 x14_1).f1.f0).length c121_1, .slice A121_2 ((rd_T84 l0 x14_1).f1.f1).length c121_2, .int .i64 ((rd_T84 l0 x14_1).f2.f0), .slice A121_4 ((rd_T84 l0 x14_1).f2.f1).length c121_4, .int .i64 ((rd_T84 l0 x14_1).f2.f2), .int .i64 ((rd_T84 l0 x14_1).f2.f3), .int .i64 ((rd_T84 l0 x14_1).f2.f4), .int .i64 ((rd_T84 l0 x14_1).f2.f5), .slice A121_9 ((rd_T84 l0 x14_1).f2.f6).length c121_9] 84 (0, 0)) (by (with_reducible repeat (first | refine blk_drewN ?_ _ | refine blk_drew ?_ | refine blk_alloc ?_ _)); exact BK122.out)) : gb124 ≠ gb122)); clear BK122; clear HB; have BK122 := n0_; have HB := n1_; have BK124 := n2_; have GW124 := n3_; have GE124 := n4_; have NB122_124 := n5_; have NB124_122 := n6_; clear n0_ n1_ n2_ n3_ n4_ n5_ n6_; clear hb hbox hg; have hnb12 := NB124_122.out; have hnc12 := NB122_124.out; have hcz13_0 : w11.cell? ⟨gb124, 0, none⟩ = some (.bool false) := (blk_cell BK124.out 0).trans rfl; have hcz13_1 : w11.cell? ⟨gb124, 1, none⟩ = some (.slice none 0 0) := (blk_cell BK124.out 1).trans rfl; have hfz13_0 := blk_frozen BK124.out 0; have hfz13_1 := blk_frozen BK124.out 1))
                      go_roundg k2
                      case measure => have := HK1.out; have := HK2.out; omega
                      case rel => exact ⟨(wrap64 (x7_2 + (((rd_T109 ((rd_T84 l0 x14_1).f1.f0) x36_2).f1).length : Int))), (wrap64 (x36_2 + 1)), (by first | rfl | (simp; done) | (simp [*]; done)), (by first | rfl | (simp; done) | (simp [*]; done)), H', ⟨by have := HK1.out; have := HK2.out; omega⟩, ⟨by (with_reducible repeat (first | refine blk_drewN ?_ _ | refine blk_drew ?_ | refine blk_alloc ?_ _)); refine blk_far ?_ NB122_124.out _; (with_reducible repeat (first | refine blk_drewN ?_ _ | refine blk_drew ?_ | refine blk_alloc ?_ _)); refine blk_far ?_ NB122_124.out _; (with_reducible repeat (first | refine blk_drewN ?_ _ | refine blk_drew ?_ | refine blk_alloc ?_ _)); exact BK122.out⟩, ⟨by repeat (first | (with_reducible first | exact HB.out | apply below_alloc | apply pw_below_drewN | apply below_drew1 | refine below_set ?_ GE122.out | refine below_set ?_ GE124.out) | exact HB.out)⟩⟩
                    · rw [if_neg c10] at H
                      exact absurd H (by simp)
                  · rw [if_neg c9] at H
                    exact absurd H (by simp)
                · rw [if_neg c8] at H
                  have c8b0 : decide (x36_2 < (((rd_T84 l0 x14_1).f1.f0).length : Int)) = false := decide_eq_false c8
                  clear c8
                  have H' := Aside0.mk H
                  clear H
                  have hcz14_0 : wr.cell? ⟨gb122, 0, none⟩ = some (.int .i64 ((rd_T84 l0 x14_1).f0)) := (blk_cell BK122.out 0).trans rfl
                  have hcz14_1 : wr.cell? ⟨gb122, 1, none⟩ = some (.slice A121_1 ((rd_T84 l0 x14_1).f1.f0).length c121_1) := (blk_cell BK122.out 1).trans rfl
                  have hcz14_2 : wr.cell? ⟨gb122, 2, none⟩ = some (.slice A121_2 ((rd_T84 l0 x14_1).f1.f1).length c121_2) := (blk_cell BK122.out 2).trans rfl
                  have hcz14_3 : wr.cell? ⟨gb122, 3, none⟩ = some (.int .i64 ((rd_T84 l0 x14_1).f2.f0)) := (blk_cell BK122.out 3).trans rfl
                  have hcz14_4 : wr.cell? ⟨gb122, 4, none⟩ = some (.slice A121_4 ((rd_T84 l0 x14_1).f2.f1).length c121_4) := (blk_cell BK122.out 4).trans rfl
                  have hcz14_5 : wr.cell? ⟨gb122, 5, none⟩ = some (.int .i64 ((rd_T84 l0 x14_1).f2.f2)) := (blk_cell BK122.out 5).trans rfl
                  have hcz14_6 : wr.cell? ⟨gb122, 6, none⟩ = some (.int .i64 ((rd_T84 l0 x14_1).f2.f3)) := (blk_cell BK122.out 6).trans rfl
                  have hcz14_7 : wr.cell? ⟨gb122, 7, none⟩ = some (.int .i64 ((rd_T84 l0 x14_1).f2.f4)) := (blk_cell BK122.out 7).trans rfl
                  have hcz14_8 : wr.cell? ⟨gb122, 8, none⟩ = some (.int .i64 ((rd_T84 l0 x14_1).f2.f5)) := (blk_cell BK122.out 8).trans rfl
                  have hcz14_9 : wr.cell? ⟨gb122, 9, none⟩ = some (.slice A121_9 ((rd_T84 l0 x14_1).f2.f6).length c121_9) := (blk_cell BK122.out 9).trans rfl
                  have hfz14_0 := blk_frozen BK122.out 0
                  have hfz14_1 := blk_frozen BK122.out 1
                  have hfz14_2 := blk_frozen BK122.out 2
                  have hfz14_3 := blk_frozen BK122.out 3
                  have hfz14_4 := blk_frozen BK122.out 4
                  have hfz14_5 := blk_frozen BK122.out 5
                  have hfz14_6 := blk_frozen BK122.out 6
                  have hfz14_7 := blk_frozen BK122.out 7
                  have hfz14_8 := blk_frozen BK122.out 8
                  have hfz14_9 := blk_frozen BK122.out 9
                  go_wp2
                  go_loopg [7, 50] k2 (fun kq v7 v50 w' => ∃ (x7_3 : Int) (x50_3 : Int), v7 = .int .i64 x7_3 ∧ v50 = .int .i64 x50_3 ∧ Aside0 (trunnionlaw32_few.l2 kq l0 a1 x7_3 l0 (l0.length : Int) x14_1 ((rd_T84 l0 x14_1).f2.f6) (((rd_T84 l0 x14_1).f2.f6).length : Int) x50_3 = some r) ∧ Aside0 (kq ≤ k2) ∧ Aside0 (w'.heap[gb122]? = some (.cells #[.int .i64 ((rd_T84 l0 x14_1).f0), (.slice A121_1 ((rd_T84 l0 x14_1).f1.f0).length c121_1), (.slice A121_2 ((rd_T84 l0 x14_1).f1.f1).length c121_2), .int .i64 ((rd_T84 l0 x14_1).f2.f0), (.slice A121_4 ((rd_T84 l0 x14_1).f2.f1).length c121_4), .int .i64 ((rd_T84 l0 x14_1).f2.f2), .int .i64 ((rd_T84 l0 x14_1).f2.f3), .int .i64 ((rd_T84 l0 x14_1).f2.f4), .int .i64 ((rd_T84 l0 x14_1).f2.f5), (.slice A121_9 ((rd_T84 l0 x14_1).f2.f6).length c121_9)] 84 (0, 0))) ∧ Aside0 (Below w.heap.size w w'))
                  case atStart => exact ⟨(x7_2), (0), (by first | rfl | (simp; done) | (simp [*]; done)), (by first | rfl | (simp; done) | (simp [*]; done)), H', ⟨Nat.le_refl _⟩, ⟨by (with_reducible repeat (first | refine blk_drewN ?_ _ | refine blk_drew ?_ | refine blk_alloc ?_ _)); exact BK122.out⟩, ⟨by repeat (first | (with_reducible first | exact HB.out | apply below_alloc | apply pw_below_drewN | apply below_drew1 | refine below_set ?_ GE122.out) | exact HB.out)⟩⟩
                  case round =>
                    clear H'
                    try clear c1
                    try clear p1
                    try clear q1
                    try clear hx1
                    try clear c2
                    try clear p2
                    try clear c3
                    try clear c3b0
                    try clear c4
                    try clear c4b0
                    try clear c5
                    try clear c5b0
                    try clear p6
                    try clear c8
                    try clear c8b0
                    try clear c9
                    try clear c9b0
                    try clear c10
                    try clear c10b0
                    try clear c12
                    try clear p12
                    try clear q12
                    try clear hx12
                    try clear hcz13_0
                    try clear hcz13_1
                    try clear hcz14_0
                    try clear hcz14_1
                    try clear hcz14_2
                    try clear hcz14_3
                    try clear hcz14_4
                    try clear hcz14_5
                    try clear hcz14_6
                    try clear hcz14_7
                    try clear hcz14_8
                    try clear hcz14_9
                    try clear hcz7_0
                    try clear hcz7_1
                    try clear hcz7_2
                    try clear hcz7_3
                    try clear hcz7_4
                    try clear hcz7_5
                    try clear hcz7_6
                    try clear hcz7_7
                    try clear hcz7_8
                    try clear hcz7_9
                    try clear hfz13_0
                    try clear hfz13_1
                    try clear hfz14_0
                    try clear hfz14_1
                    try clear hfz14_2
                    try clear hfz14_3
                    try clear hfz14_4
                    try clear hfz14_5
                    try clear hfz14_6
                    try clear hfz14_7
                    try clear hfz14_8
                    try clear hfz14_9
                    try clear hfz7_0
                    try clear hfz7_1
                    try clear hfz7_2
                    try clear hfz7_3
                    try clear hfz7_4
                    try clear hfz7_5
                    try clear hfz7_6
                    try clear hfz7_7
                    try clear hfz7_8
                    try clear hfz7_9
                    try clear hx121_0
                    try clear hx121_1
                    try clear hx121_2
                    try clear hx121_3
                    try clear hx121_4
                    try clear hx121_5
                    try clear hx121_6
                    try clear hx121_7
                    try clear hx121_8
                    try clear hx121_9
                    try clear hx123_0
                    try clear hx123_1
                    try clear p1
                    try clear p121
                    try clear p123
                    try clear p2
                    try clear p6
                    try clear q1
                    try clear q121
                    try clear q123
                    obtain ⟨x7_3, x50_3, rfl, rfl, HA, HK3, BK122, HB⟩ := hrel
                    cases gk with
                    | zero => exact absurd HA.out (by simp [trunnionlaw32_few.l2])
                    | succ k3 =>
                      have H := HA.out
                      clear HA
                      simp only [trunnionlaw32_few.l2] at H
                      by_cases c15 : x50_3 < (((rd_T84 l0 x14_1).f2.f6).length : Int)
                      · rw [if_pos c15] at H
                        have c15b0 : decide (x50_3 < (((rd_T84 l0 x14_1).f2.f6).length : Int)) = true := decide_eq_true c15
                        clear c15
                        by_cases c16 : 0 ≤ x50_3
                        · rw [if_pos c16] at H
                          have c16b0 : decide (0 ≤ x50_3) = true := decide_eq_true c16
                          clear c16
                          by_cases c17 : x50_3 < (((rd_T84 l0 x14_1).f2.f6).length : Int)
                          · rw [if_pos c17] at H
                            have c17b0 : decide (x50_3 < (((rd_T84 l0 x14_1).f2.f6).length : Int)) = true := decide_eq_true c17
                            clear c17
                            have H' := Aside0.mk H
                            clear H
                            have p125 : 0 ≤ (x50_3 : Int) := of_decide_eq_true (by first | (with_reducible assumption) | assumption)
                            have q125 : x50_3 < (((rd_T84 l0 x14_1).f2.f6).length : Int) := of_decide_eq_true (by first | (with_reducible assumption) | assumption)
                            obtain ⟨ad125, A125_1, c125_1, e125, hx125_0, hx125_1, hl125_1, hi125_1⟩ := at_T156 HR121_9.out x50_3 p125 q125
                            cases e125
                            replace hx125_0 := (HB.out.cell (World.block_lt_of_cell? w _ hx125_0)).trans hx125_0
                            replace hx125_1 := (HB.out.cell (World.block_lt_of_cell? w _ hx125_1)).trans hx125_1
                            have HR125_1 := Aside0.mk hi125_1
                            have HC125_1 := Aside0.mk hl125_1
                            clear hi125_1 hl125_1
                            replace p125 := eq_true p125
                            replace q125 := eq_true q125
                            go_wp2_with (first | ((with_reducible refine gate_dst (N := 11) rfl ?_); refine box_event ?hg (N := 11) ?hd (cs := #[.string (⟨#[]⟩ : ByteArray), .slice none 0 0]) (t := 156) ?hr ?_; (case hd => rfl); (case hg => rfl); (case hr => first | (go_simp; done) | (go_simp; rfl)); intro gb126 hg w18 hbox hb; have n0_ := Aside0.mk (blk_below (g := gb122) (o := .cells #[.int .i64 ((rd_T84 l0 x14_1).f0), .slice A121_1 ((rd_T84 l0 x14_1).f1.f0).length c121_1, .slice A121_2 ((rd_T84 l0 x14_1).f1.f1).length c121_2, .int .i64 ((rd_T84 l0 x14_1).f2.f0), .slice A121_4 ((rd_T84 l0 x14_1).f2.f1).length c121_4, .int .i64 ((rd_T84 l0 x14_1).f2.f2), .int .i64 ((rd_T84 l0 x14_1).f2.f3), .int .i64 ((rd_T84 l0 x14_1).f2.f4), .int .i64 ((rd_T84 l0 x14_1).f2.f5), .slice (some ad125) ((rd_T84 l0 x14_1).f2.f6).length c121_9] 84 (0, 0)) (by (with_reducible repeat (first | refine blk_drewN ?_ _ | refine blk_drew ?_ | refine blk_alloc ?_ _)); exact BK122.out) hb); have n1_ := Aside0.mk (below_step (by repeat (first | (with_reducible first | exact HB.out | apply below_alloc | apply pw_below_drewN | apply below_drew1 | refine below_set ?_ GE122.out) | exact HB.out)) hb); have n2_ := Aside0.mk (hbox); have n3_ := Aside0.mk ((by rw [hg]; exact (below_size (by repeat (first | (with_reducible first | exact HB.out | apply below_alloc | apply pw_below_drewN | apply below_drew1 | refine below_set ?_ GE122.out) | exact HB.out))) : w.heap.size ≤ gb126)); have n4_ := Aside0.mk ((by rw [hg]; exact (below_size (by repeat (first | (with_reducible first | exact HB.out | apply below_alloc | apply pw_below_drewN | apply below_drew1 | refine below_set ?_ GE122.out) | exact HB.out))) : w.heap.size ≤ gb126)); have n5_ := Aside0.mk ((by rw [hg]; exact Nat.ne_of_lt (blk_lt (g := gb122) (o := .cells #[.int .i64 ((rd_T84 l0 x14_1).f0), .slice A121_1 ((rd_T84 l0 x14_1).f1.f0).length c121_1, .slice A121_2 ((rd_T84 l0 x14_1).f1.f1).length c121_2, .int .i64 ((rd_T84 l0 x14_1).f2.f0), .slice A121_4 ((rd_T84 l0 x14_1).f2.f1).length c121_4, .int .i64 ((rd_T84 l0 x14_1).f2.f2), .int .i64 ((rd_T84 l0 x14_1).f2.f3), .int .i64 ((rd_T84 l0 x14_1).f2.f4), .int .i64 ((rd_T84 l0 x14_1).f2.f5), .slice (some ad125) ((rd_T84 l0 x14_1).f2.f6).length c121_9] 84 (0, 0)) (by (with_reducible repeat (first | refine blk_drewN ?_ _ | refine blk_drew ?_ | refine blk_alloc ?_ _)); exact BK122.out)) : gb122 ≠ gb126)); have n6_ := Aside0.mk ((by rw [hg]; exact Nat.ne_of_gt (blk_lt (g := gb122) (o := .cells #[.int .i64 ((rd_T84 l0 x14_1).f0), .slice A121_1 ((rd_T84 l0 x14_1).f1.f0).length c121_1, .slice A121_2 ((rd_T84 l0 x14_1).f1.f1).length c121_2, .int .i64 ((rd_T84 l0 x14_1).f2.f0), .slice A121_4 ((rd_T84 l0 x14_1).f2.f1).length c121_4, .int .i64 ((rd_T84 l0 x14_1).f2.f2), .int .i64 ((rd_T84 l0 x14_1).f2.f3), .int .i64 ((rd_T84 l0 x14_1).f2.f4), .int .i64 ((rd_T84 l0 x14_1).f2.f5), .slice (some ad125) ((rd_T84 l0 x14_1).f2.f6).length c121_9] 84 (0, 0)) (by (with_reducible repeat (first | refine blk_drewN ?_ _ | refine blk_drew ?_ | refine blk_alloc ?_ _)); exact BK122.out)) : gb126 ≠ gb122)); clear BK122; clear HB; have BK122 := n0_; have HB := n1_; have BK126 := n2_; have GW126 := n3_; have GE126 := n4_; have NB122_126 := n5_; have NB126_122 := n6_; clear n0_ n1_ n2_ n3_ n4_ n5_ n6_; clear hb hbox hg; have hnb19 := NB126_122.out; have hnc19 := NB122_126.out; have hcz20_0 : w18.cell? ⟨gb126, 0, none⟩ = some (.string (⟨#[]⟩ : ByteArray)) := (blk_cell BK126.out 0).trans rfl; have hcz20_1 : w18.cell? ⟨gb126, 1, none⟩ = some (.slice none 0 0) := (blk_cell BK126.out 1).trans rfl; have hfz20_0 := blk_frozen BK126.out 0; have hfz20_1 := blk_frozen BK126.out 1))
                            go_roundg k3
                            case measure => have := HK1.out; have := HK2.out; have := HK3.out; omega
                            case rel => exact ⟨(wrap64 (x7_3 + (wrap64 ((((rd_T156 ((rd_T84 l0 x14_1).f2.f6) x50_3).f1).length : Int) + (((rd_T156 ((rd_T84 l0 x14_1).f2.f6) x50_3).f0).size : Int))))), (wrap64 (x50_3 + 1)), (by first | rfl | (simp; done) | (simp [*]; done)), (by first | rfl | (simp; done) | (simp [*]; done)), H', ⟨by have := HK1.out; have := HK2.out; have := HK3.out; omega⟩, ⟨by (with_reducible repeat (first | refine blk_drewN ?_ _ | refine blk_drew ?_ | refine blk_alloc ?_ _)); refine blk_far ?_ NB122_126.out _; (with_reducible repeat (first | refine blk_drewN ?_ _ | refine blk_drew ?_ | refine blk_alloc ?_ _)); refine blk_far ?_ NB122_126.out _; (with_reducible repeat (first | refine blk_drewN ?_ _ | refine blk_drew ?_ | refine blk_alloc ?_ _)); exact BK122.out⟩, ⟨by repeat (first | (with_reducible first | exact HB.out | apply below_alloc | apply pw_below_drewN | apply below_drew1 | refine below_set ?_ GE122.out | refine below_set ?_ GE126.out) | exact HB.out)⟩⟩
                          · rw [if_neg c17] at H
                            exact absurd H (by simp)
                        · rw [if_neg c16] at H
                          exact absurd H (by simp)
                      · rw [if_neg c15] at H
                        have c15b0 : decide (x50_3 < (((rd_T84 l0 x14_1).f2.f6).length : Int)) = false := decide_eq_false c15
                        clear c15
                        by_cases c21 : x7_3 > 100
                        · rw [if_pos c21] at H
                          have c21b0 : decide (100 < x7_3) = true := decide_eq_true c21
                          clear c21
                          obtain rfl := Option.some.inj H
                          go_wp2
                          go_ret
                          exact ⟨by first | rfl | (simp [errW_none, errW_some] <;> rfl) | (simp [*, errW_none, errW_some] <;> rfl), by repeat (first | (with_reducible first | exact HB.out | apply below_alloc | apply pw_below_drewN | apply below_drew1 | refine below_set ?_ GE122.out) | exact HB.out)⟩
                        · rw [if_neg c21] at H
                          have c21b0 : decide (100 < x7_3) = false := decide_eq_false c21
                          clear c21
                          have H' := Aside0.mk H
                          clear H
                          go_wp2
                          go_roundg k3
                          case measure => have := HK1.out; have := HK2.out; have := HK3.out; omega
                          case rel => exact ⟨(wrap64 (x14_1 + 1)), (by first | rfl | (simp; done) | (simp [*]; done)), H', ⟨by have := HK1.out; have := HK2.out; have := HK3.out; omega⟩, ⟨by repeat (first | (with_reducible first | exact HB.out | apply below_alloc | apply pw_below_drewN | apply below_drew1 | refine below_set ?_ GE122.out) | exact HB.out)⟩⟩
          · rw [if_neg c5] at H
            exact absurd H (by simp)
        · rw [if_neg c4] at H
          exact absurd H (by simp)
      · rw [if_neg c3] at H
        have c3b0 : decide (x14_1 < (l0.length : Int)) = false := decide_eq_false c3
        clear c3
        obtain rfl := Option.some.inj H
        go_wp2
        go_ret
        exact ⟨by first | rfl | (simp [errW_none, errW_some] <;> rfl) | (simp [*, errW_none, errW_some] <;> rfl), by repeat (first | (with_reducible first | exact HB.out | apply below_alloc | apply pw_below_drewN | apply below_drew1) | exact HB.out)⟩

/-! ### trunnionlaw31_Answers: function 25 -/
def trunnionlaw31_Answers.l0 : Nat → List (S112) → List (S109) → Int → Int → Option ((List (S112)))
  | 0, _, _, _, _ => none
  | k + 1, x3, x6, x7, x8 => if x8 < x7 then (if 0 ≤ x8 then (if x8 < (x6.length : Int) then (if x3.length < 4398046511104 then (trunnionlaw31_Answers.l0 k (x3 ++ [(⟨(rd_T109 x6 x8).f0, (rd_T109 x6 x8).f1⟩ : S112)]) x6 x7 (wrap64 (x8 + 1))) else (none)) else (none)) else (none)) else (some x3)
def trunnionlaw31_Answers.f (k : Nat) (l0 : List (S109)) : Option ((List (S112))) := trunnionlaw31_Answers.l0 k ([] : List (S112)) l0 (l0.length : Int) 0
theorem trunnionlaw31_Answers.mono_l : ∀ k, (∀ y0 y1 y2 y3, LeO (trunnionlaw31_Answers.l0 k y0 y1 y2 y3) (trunnionlaw31_Answers.l0 (k + 1) y0 y1 y2 y3))
  | 0 => fun _ _ _ _ r h => by simp [trunnionlaw31_Answers.l0] at h
  | k + 1 => by
    have ih0 := trunnionlaw31_Answers.mono_l k
    · intro y0 y1 y2 y3
      unfold trunnionlaw31_Answers.l0
      repeat' first
      | (with_reducible exact ih0 _ _ _ _)
      | (with_reducible exact LeO.refl _)
      | (with_reducible exact LeO.none _)
      | (with_reducible refine LeO.ite ?_ ?_)
      | (with_reducible refine LeO.bind ?_ (fun _ => ?_))
      | exact ih0 _ _ _ _
      | exact LeO.none _
      | refine LeO.ite ?_ ?_
      | refine LeO.bind ?_ (fun _ => ?_)
theorem trunnionlaw31_Answers.mono : ∀ a0 k, LeO (trunnionlaw31_Answers.f k a0) (trunnionlaw31_Answers.f (k + 1) a0) := by
  intro a0 k
  have ih0 := trunnionlaw31_Answers.mono_l k
  unfold trunnionlaw31_Answers.f
  repeat' first
      | (with_reducible exact ih0 _ _ _ _)
      | (with_reducible exact LeO.refl _)
      | (with_reducible exact LeO.none _)
      | (with_reducible refine LeO.ite ?_ ?_)
      | (with_reducible refine LeO.bind ?_ (fun _ => ?_))
      | exact ih0 _ _ _ _
      | exact LeO.none _
      | refine LeO.ite ?_ ?_
      | refine LeO.bind ?_ (fun _ => ?_)
set_option maxHeartbeats 8000000 in
set_option maxRecDepth 100000 in
theorem trunnionlaw31_Answers.calls (k : Nat) (P0_ : Nat → Prop) (A0 : Option Addr) (c0 : Nat) (l0 : List (S109)) (r : List (S112)) (w : World) (hs0 : Kd.V k109 109 w w.heap.size (fun k_ => P0_ k_) (.slice A0 l0.length c0) l0) (h : trunnionlaw31_Answers.f k l0 = some r) :
    Calls Try.prog 25 #[.slice A0 l0.length c0] w fun e w' => ∃ v0_ : Value, e = .returned (v0_) ∧ Kd.N k112 112 w' w.heap.size (fun k_ => (P0_ k_ ∨ w.heap.size ≤ k_)) v0_ r ∧ Below w.heap.size w w' := by
  have hu109 := Try.underlying109
  have HO0 := Aside0.mk (show Kd.V k109 109 w w.heap.size (fun k_ => (P0_ k_ ∨ w.heap.size ≤ k_)) (.slice A0 l0.length c0) l0 from Kd.V_mono hs0 (fun k_ hk => .inl hk))
  have HB := Aside0.mk (Below.refl w.heap.size w)
  have H : (trunnionlaw31_Answers.l0 k ([] : List (S112)) l0 (l0.length : Int) 0) = some r := h
  clear h
  have H' := Aside0.mk H
  clear H
  go_enter Try.func25, Try.ntmps25
  go_wp2
  go_loopg [3, 8] k (fun kq v3 v8 w' => ∃ (x3_1 : List (S112)) (x8_1 : Int), v8 = .int .i64 x8_1 ∧ Aside0 (trunnionlaw31_Answers.l0 kq x3_1 l0 (l0.length : Int) x8_1 = some r) ∧ Aside0 (kq ≤ k) ∧ Aside0 (Kd.N k112 112 w' w.heap.size (fun k_ => (P0_ k_ ∨ w.heap.size ≤ k_)) v3 x3_1) ∧ Aside0 (Kd.V k109 109 w' w.heap.size (fun k_ => (P0_ k_ ∨ w.heap.size ≤ k_) ∧ some k_ ≠ (v3 : Value).ownBlock) (.slice A0 l0.length c0) l0) ∧ Aside0 (Below w.heap.size w w'))
  case atStart => exact ⟨(([] : List (S112))), (0), (by first | rfl | (simp; done) | (simp [*]; done)), H', ⟨Nat.le_refl _⟩, ⟨by first | exact Kd.S_nil _ _ _ _ _ | exact Kd.N_nil _ _ _ _ _ | exact Kd.V_nil _ _ _ _ _ | exact Kd.Q_nil _ _ _ _ _ | exact Kd.R_nil _ _ _ _ _⟩, ⟨by (with_reducible repeat (first | apply Kd.V_alloc | apply Kd.V_drewN | apply Kd.V_drew)); exact Kd.V_mono HO0.out (fun _ hk => ⟨hk, (by simp [Value.ownBlock])⟩)⟩, ⟨by repeat (first | (with_reducible first | exact HB.out | apply below_alloc | apply pw_below_drewN | apply below_drew1) | exact HB.out)⟩⟩
  case round =>
    clear H'
    obtain ⟨x3_1, x8_1, rfl, HA, HK1, HO_3, HO_6, HB⟩ := hrel
    cases gk with
    | zero => exact absurd HA.out (by simp [trunnionlaw31_Answers.l0])
    | succ k1 =>
      have H := HA.out
      clear HA
      simp only [trunnionlaw31_Answers.l0] at H
      by_cases c2 : x8_1 < (l0.length : Int)
      · rw [if_pos c2] at H
        have c2b0 : decide (x8_1 < (l0.length : Int)) = true := decide_eq_true c2
        clear c2
        by_cases c3 : 0 ≤ x8_1
        · rw [if_pos c3] at H
          have c3b0 : decide (0 ≤ x8_1) = true := decide_eq_true c3
          clear c3
          by_cases c4 : x8_1 < (l0.length : Int)
          · rw [if_pos c4] at H
            have c4b0 : decide (x8_1 < (l0.length : Int)) = true := decide_eq_true c4
            clear c4
            by_cases c5 : x3_1.length < 4398046511104
            · rw [if_pos c5] at H
              have LMc5 := Aside0.mk c5
              clear c5
              obtain ⟨y129, hy129⟩ : ∃ y_ : List (S112), y_ = (x3_1 ++ [(⟨(rd_T109 l0 x8_1).f0, (rd_T109 l0 x8_1).f1⟩ : S112)]) := ⟨_, rfl⟩
              replace H : (trunnionlaw31_Answers.l0 k1 y129 l0 (l0.length : Int) (wrap64 (x8_1 + 1))) = some r := by first | (rw [hy129]; with_reducible exact H) | (have H2_ := (Option.bind_some _ _).symm.trans H; rw [hy129]; with_reducible exact H2_) | (have H2_ := (Option.bind_some _ _).symm.trans H; with_reducible exact H2_) | with_reducible exact H | (rw [hy129]; exact H) | exact H
              have Ny129 := Aside0.mk hy129
              clear hy129
              have H' := Aside0.mk H
              clear H
              have p127 : 0 ≤ (x8_1 : Int) := of_decide_eq_true (by first | (with_reducible assumption) | assumption)
              have q127 : x8_1 < (l0.length : Int) := of_decide_eq_true (by first | (with_reducible assumption) | assumption)
              obtain ⟨ad127, A127_1, c127_1, e127, hx127_0, hx127_1, hl127_1, hi127_1⟩ := at_T109 (Kd.V_reads' HO_6.out).2.2 x8_1 p127 q127
              cases e127
              obtain ⟨ce127, hce127, hMe127, hcc127⟩ := Kd.V_get HO_6.out z109 x8_1 p127 (by first | exact q127 | exact of_decide_eq_true (by first | (with_reducible assumption) | assumption) | (have e_ := (Kd.V_reads' HO_6.out).1; omega))
              obtain ⟨ua127_1, uc127_1, rfl, ul127_1, ge127_1⟩ := k109_openF hMe127
              have hv127_1 := hcc127 1 _ rfl
              rw [add_field _ _ 1 (by omega)] at hv127_1
              replace hv127_1 := Option.some.inj (hv127_1.symm.trans hx127_1)
              injection hv127_1 with hva_ hvn_ hvc_
              rw [hva_] at ge127_1
              rw [hvc_] at ul127_1
              have HL127_1 := Aside0.mk (show Kd.V (Kd.int .u64) 113 _ w.heap.size _ _ ((rd_T109 l0 x8_1).f1) from Kd.V_mk ul127_1 ge127_1)
              clear hva_ hvn_ hvc_ ge127_1 ul127_1
              clear hcc127 hce127
              have HR127_1 := Aside0.mk hi127_1
              have HC127_1 := Aside0.mk hl127_1
              clear hi127_1 hl127_1
              replace p127 := eq_true p127
              replace q127 := eq_true q127
              go_wp2_with (first | ((with_reducible refine gate_dst (N := 5) rfl ?_); refine box_event ?hg (N := 5) ?hd (cs := #[.bool false, .slice none 0 0]) (t := 109) ?hr ?_; (case hd => rfl); (case hg => rfl); (case hr => first | (go_simp; done) | (go_simp; rfl)); intro gb128 hg w6 hbox hb; have n0_ := Aside0.mk (Kd.N_below (Kd.N_elderB (by (with_reducible repeat (first | apply Kd.N_alloc | apply Kd.N_drewN | apply Kd.N_drew)); exact HO_3.out) gb128 (Nat.le_of_eq hg.symm)) hb); have n1_ := Aside0.mk (Kd.V_below (Kd.V_elderB (by (with_reducible repeat (first | apply Kd.V_alloc | apply Kd.V_drewN | apply Kd.V_drew)); exact HO_6.out) gb128 (Nat.le_of_eq hg.symm)) hb); have n2_ := Aside0.mk (Kd.V_below (Kd.V_elderB (by (with_reducible repeat (first | apply Kd.V_alloc | apply Kd.V_drewN | apply Kd.V_drew)); exact HL127_1.out) gb128 (Nat.le_of_eq hg.symm)) hb); have n3_ := Aside0.mk (Kd.C_below (by repeat (first | (with_reducible exact HR127_1.out) | (with_reducible refine Kd.C_alloc ?_ _) | (with_reducible refine Kd.C_drewN ?_ _) | (with_reducible refine Kd.C_drew ?_) | exact HR127_1.out)) hb); have n4_ := Aside0.mk (below_step (by repeat (first | (with_reducible first | exact HB.out | apply below_alloc | apply pw_below_drewN | apply below_drew1) | exact HB.out)) hb); have n5_ := Aside0.mk (hbox); have n6_ := Aside0.mk ((by rw [hg]; exact (below_size (by repeat (first | (with_reducible first | exact HB.out | apply below_alloc | apply pw_below_drewN | apply below_drew1) | exact HB.out))) : w.heap.size ≤ gb128)); have n7_ := Aside0.mk ((by rw [hg]; exact (below_size (by repeat (first | (with_reducible first | exact HB.out | apply below_alloc | apply pw_below_drewN | apply below_drew1) | exact HB.out))) : w.heap.size ≤ gb128)); clear HO_3; clear HO_6; clear HL127_1; clear HR127_1; clear HB; have HO_3 := n0_; have HO_6 := n1_; have HL127_1 := n2_; have HR127_1 := n3_; have HB := n4_; have BK128 := n5_; have GW128 := n6_; have GE128 := n7_; clear n0_ n1_ n2_ n3_ n4_ n5_ n6_ n7_; clear hb hbox hg; have hcz7_0 : w6.cell? ⟨gb128, 0, none⟩ = some (.bool false) := (blk_cell BK128.out 0).trans rfl; have hcz7_1 : w6.cell? ⟨gb128, 1, none⟩ = some (.slice none 0 0) := (blk_cell BK128.out 1).trans rfl; have hfz7_0 := blk_frozen BK128.out 0; have hfz7_1 := blk_frozen BK128.out 1) | ((with_reducible refine gate_store (t := 109) (p := 5) rfl ?_); refine store_event (t := 109) (p := 5) (v := ?vo_w8) (w1 := ((w6.setCell ⟨gb128, 0, none⟩ (.bool ((rd_T109 l0 x8_1).f0))).setCell ⟨gb128, 1, none⟩ (.slice A127_1 ((rd_T109 l0 x8_1).f1).length c127_1))) ?hg ?ho ?hn ?hr ?_; (case ho => rfl); (case hg => rfl); (case hn => rfl); (case hr => first | (go_simp; done) | (go_simp; rfl)); intro w8 hw; have n0_ : Aside0 (Kd.N k112 112 w8 w.heap.size (fun k_ => (P0_ k_ ∨ w.heap.size ≤ k_) ∧ k_ ≠ gb128) u3 x3_1) := ⟨(by rw [hw]; exact (by (with_reducible repeat (first | apply Kd.N_alloc | apply Kd.N_drewN | apply Kd.N_drew)); exact Kd.N_mono (Kd.N_far (p := ⟨gb128, 1, none⟩) (Kd.N_far (p := ⟨gb128, 0, none⟩) (Kd.N_mono HO_3.out (fun k_ hk => (⟨hk, hk.2⟩ : _ ∧ k_ ≠ gb128))) (fun _ hk => hk.2) (.bool ((rd_T109 l0 x8_1).f0))) (fun _ hk => hk.2) (.slice A127_1 ((rd_T109 l0 x8_1).f1).length c127_1)) (fun _ hk => ⟨hk.1.1, hk.1.2⟩)))⟩; have n1_ : Aside0 (Kd.V k109 109 w8 w.heap.size (fun k_ => (P0_ k_ ∨ w.heap.size ≤ k_) ∧ some k_ ≠ (u3 : Value).ownBlock ∧ k_ ≠ gb128) (.slice (some ad127) l0.length c0) l0) := ⟨(by rw [hw]; exact (by (with_reducible repeat (first | apply Kd.V_alloc | apply Kd.V_drewN | apply Kd.V_drew)); exact Kd.V_mono (Kd.V_far (p := ⟨gb128, 1, none⟩) (Kd.V_far (p := ⟨gb128, 0, none⟩) (Kd.V_mono HO_6.out (fun k_ hk => (⟨hk, hk.2⟩ : _ ∧ k_ ≠ gb128))) (fun _ hk => hk.2) (.bool ((rd_T109 l0 x8_1).f0))) (fun _ hk => hk.2) (.slice A127_1 ((rd_T109 l0 x8_1).f1).length c127_1)) (fun _ hk => ⟨hk.1.1.1, ⟨hk.1.1.2, hk.1.2⟩⟩)))⟩; have n2_ : Aside0 (Kd.V (Kd.int .u64) 113 w8 w.heap.size (fun k_ => (P0_ k_ ∨ w.heap.size ≤ k_) ∧ some k_ ≠ (u3 : Value).ownBlock ∧ k_ ≠ gb128) (.slice A127_1 ((rd_T109 l0 x8_1).f1).length c127_1) ((rd_T109 l0 x8_1).f1)) := ⟨(by rw [hw]; exact (by (with_reducible repeat (first | apply Kd.V_alloc | apply Kd.V_drewN | apply Kd.V_drew)); exact Kd.V_mono (Kd.V_far (p := ⟨gb128, 1, none⟩) (Kd.V_far (p := ⟨gb128, 0, none⟩) (Kd.V_mono HL127_1.out (fun k_ hk => (⟨hk, hk.2⟩ : _ ∧ k_ ≠ gb128))) (fun _ hk => hk.2) (.bool ((rd_T109 l0 x8_1).f0))) (fun _ hk => hk.2) (.slice A127_1 ((rd_T109 l0 x8_1).f1).length c127_1)) (fun _ hk => ⟨hk.1.1.1, ⟨hk.1.1.2, hk.1.2⟩⟩)))⟩; have n3_ : Aside0 (w8.heap[gb128]? = some (.cells #[.bool ((rd_T109 l0 x8_1).f0), .slice A127_1 ((rd_T109 l0 x8_1).f1).length c127_1] 109 (0, 0))) := ⟨(by rw [hw]; exact (by (with_reducible repeat (first | refine blk_drewN ?_ _ | refine blk_drew ?_ | refine blk_alloc ?_ _)); refine blk_put (cs := #[.bool ((rd_T109 l0 x8_1).f0), .slice none 0 0]) ?_ 1 _ rfl; (with_reducible repeat (first | refine blk_drewN ?_ _ | refine blk_drew ?_ | refine blk_alloc ?_ _)); refine blk_put (cs := #[.bool false, .slice none 0 0]) ?_ 0 _ rfl; (with_reducible repeat (first | refine blk_drewN ?_ _ | refine blk_drew ?_ | refine blk_alloc ?_ _)); exact BK128.out))⟩; have n4_ : Aside0 (Below w.heap.size w w8) := ⟨(by rw [hw]; exact (by repeat (first | (with_reducible first | exact HB.out | apply below_alloc | apply pw_below_drewN | apply below_drew1 | refine below_set ?_ GE128.out) | exact HB.out)))⟩; clear hw; clear HO_3; clear HO_6; clear HL127_1; clear BK128; clear HB; have HO_3 := n0_; have HO_6 := n1_; have HL127_1 := n2_; have BK128 := n3_; have HB := n4_; clear n0_ n1_ n2_ n3_ n4_; have hcz9_0 : w8.cell? ⟨gb128, 0, none⟩ = some (.bool ((rd_T109 l0 x8_1).f0)) := (blk_cell BK128.out 0).trans rfl; have hcz9_1 : w8.cell? ⟨gb128, 1, none⟩ = some (.slice A127_1 ((rd_T109 l0 x8_1).f1).length c127_1) := (blk_cell BK128.out 1).trans rfl; have hfz9_0 := blk_frozen BK128.out 0; have hfz9_1 := blk_frozen BK128.out 1) | ((with_reducible refine gate_builtin (b := .append) (xs := #[.tmp 12, .tmp 14]) rfl ?_); at_builtin; refine Kd.N_append k112 (w0 := w) w.heap.size rfl (.tmp 12) (.tmp 14) 70 112 (.agg #[(.bool false), (.slice none 0 0)]) 32 rfl Try.underlying70 info112 rfl (by decide) (by omega) u3 x3_1 (⟨(rd_T109 l0 x8_1).f0, (rd_T109 l0 x8_1).f1⟩ : S112) [.bool ((rd_T109 l0 x8_1).f0), .slice A127_1 ((rd_T109 l0 x8_1).f1).length c127_1] (fun k_ => (P0_ k_ ∨ w.heap.size ≤ k_) ∧ k_ ≠ gb128) (fun k_ => ((fun k_ => (P0_ k_ ∨ w.heap.size ≤ k_) ∧ k_ ≠ gb128)) k_ ∧ some k_ ≠ (u3 : Value).ownBlock) rfl rfl ?aP (fun _ hk => hk) ?aF ?aO ?aB ?aS ?aL ?_; (case aP => exact (k112_mkF _ _ (⟨(rd_T109 l0 x8_1).f0, (rd_T109 l0 x8_1).f1⟩ : S112) (Kd.V_reads' (Kd.V_mono (ok' := (fun k_ => ((fun k_ => (P0_ k_ ∨ w.heap.size ≤ k_) ∧ k_ ≠ gb128)) k_ ∧ some k_ ≠ (u3 : Value).ownBlock)) (HL127_1.out) (fun k_ hk => ⟨⟨hk.1, hk.2.2⟩, hk.2.1⟩))).2.1 (Kd.V_F (Kd.V_mono (ok' := (fun k_ => ((fun k_ => (P0_ k_ ∨ w.heap.size ≤ k_) ∧ k_ ≠ gb128)) k_ ∧ some k_ ≠ (u3 : Value).ownBlock)) (HL127_1.out) (fun k_ hk => ⟨⟨hk.1, hk.2.2⟩, hk.2.1⟩))))); (case aB => exact (by repeat (first | (with_reducible first | exact HB.out | apply below_alloc | apply pw_below_drewN | apply below_drew1 | refine below_set ?_ GE128.out) | exact HB.out))); (case aF => exact (fun k_ hk => ⟨(.inr (Nat.le_trans (below_size (by repeat (first | (with_reducible first | exact HB.out | apply below_alloc | apply pw_below_drewN | apply below_drew1 | refine below_set ?_ GE128.out) | exact HB.out))) hk)), Kd.freshB (g := gb128) (o := .cells #[.bool ((rd_T109 l0 x8_1).f0), .slice A127_1 ((rd_T109 l0 x8_1).f1).length c127_1] 109 (0, 0)) (by (with_reducible repeat (first | refine blk_drewN ?_ _ | refine blk_drew ?_ | refine blk_alloc ?_ _)); exact BK128.out) k_ hk⟩)); (case aO => exact (by (with_reducible repeat (first | apply Kd.N_alloc | apply Kd.N_drewN | apply Kd.N_drew)); exact HO_3.out)); (case aS => exact (below_size (by repeat (first | (with_reducible first | exact HB.out | apply below_alloc | apply pw_below_drewN | apply below_drew1 | refine below_set ?_ GE128.out) | exact HB.out)))); (case aL => have := LMc5.out; omega); intro v130 w10 ho hb hg hat; rw [← Ny129.out] at ho; have n0_ := Aside0.mk (Kd.V_afterv (ok := (fun k_ => (P0_ k_ ∨ w.heap.size ≤ k_) ∧ k_ ≠ gb128)) (by (with_reducible repeat (first | apply Kd.V_alloc | apply Kd.V_drewN | apply Kd.V_drew)); exact Kd.V_mono HO_6.out (fun _ hk => ⟨⟨hk.1, hk.2.2⟩, hk.2.1⟩)) hg hat); have n1_ := Aside0.mk (Kd.V_afterv (ok := (fun k_ => (P0_ k_ ∨ w.heap.size ≤ k_) ∧ k_ ≠ gb128)) (by (with_reducible repeat (first | apply Kd.V_alloc | apply Kd.V_drewN | apply Kd.V_drew)); exact Kd.V_mono HL127_1.out (fun _ hk => ⟨⟨hk.1, hk.2.2⟩, hk.2.1⟩)) hg hat); have n2_ := Aside0.mk (blk_grown (g := gb128) (o := .cells #[.bool ((rd_T109 l0 x8_1).f0), .slice A127_1 ((rd_T109 l0 x8_1).f1).length c127_1] 109 (0, 0)) (by (with_reducible repeat (first | refine blk_drewN ?_ _ | refine blk_drew ?_ | refine blk_alloc ?_ _)); exact BK128.out) hg (Kd.N_ne HO_3.out BK128.out (by decide))); have n3_ := Aside0.mk (hb); have n4_ := Aside0.mk (ho); clear HO_6; clear HL127_1; clear BK128; clear HB; clear HO_3; have HO_6 := n0_; have HL127_1 := n1_; have BK128 := n2_; have HB := n3_; have HO131 := n4_; clear n0_ n1_ n2_ n3_ n4_; clear ho hb hg hat))
              go_roundg k1
              case measure => have := HK1.out; omega
              case rel => exact ⟨(y129), (wrap64 (x8_1 + 1)), (by first | rfl | (simp; done) | (simp [*]; done)), H', ⟨by have := HK1.out; omega⟩, ⟨by (with_reducible repeat (first | apply Kd.N_alloc | apply Kd.N_drewN | apply Kd.N_drew)); exact Kd.N_mono HO131.out (fun _ hk => hk.1)⟩, ⟨by (with_reducible repeat (first | apply Kd.V_alloc | apply Kd.V_drewN | apply Kd.V_drew)); exact Kd.V_mono HO_6.out (fun _ hk => ⟨hk.1.1, hk.2⟩)⟩, ⟨by repeat (first | (with_reducible first | exact HB.out | apply below_alloc | apply pw_below_drewN | apply below_drew1 | refine below_set ?_ GE128.out) | exact HB.out)⟩⟩
            · rw [if_neg c5] at H
              exact absurd H (by simp)
          · rw [if_neg c4] at H
            exact absurd H (by simp)
        · rw [if_neg c3] at H
          exact absurd H (by simp)
      · rw [if_neg c2] at H
        have c2b0 : decide (x8_1 < (l0.length : Int)) = false := decide_eq_false c2
        clear c2
        obtain rfl := Option.some.inj H
        go_wp2
        go_ret
        exact ⟨_, by first | rfl | (simp [errW_none, errW_some] <;> rfl) | (simp [*, errW_none, errW_some] <;> rfl), by (with_reducible repeat (first | apply Kd.N_alloc | apply Kd.N_drewN | apply Kd.N_drew)); exact HO_3.out, by repeat (first | (with_reducible first | exact HB.out | apply below_alloc | apply pw_below_drewN | apply below_drew1) | exact HB.out)⟩

-- NOT PRINTED: function 27 (trunnionref32_Queue_Done)

/-! ### trunnionlaw32_calls: function 28 -/
def trunnionlaw32_calls.l0 : Nat → List (S164) → List (S156) → Int → Int → Option ((List (S164)))
  | 0, _, _, _, _ => none
  | k + 1, x3, x6, x7, x8 => if x8 < x7 then (if 0 ≤ x8 then (if x8 < (x6.length : Int) then (if x3.length < 3518437208883 then (trunnionlaw32_calls.l0 k (x3 ++ [(⟨(rd_T156 x6 x8).f0, (rd_T156 x6 x8).f1⟩ : S164)]) x6 x7 (wrap64 (x8 + 1))) else (none)) else (none)) else (none)) else (some x3)
def trunnionlaw32_calls.f (k : Nat) (l0 : List (S156)) : Option ((List (S164))) := trunnionlaw32_calls.l0 k ([] : List (S164)) l0 (l0.length : Int) 0
theorem trunnionlaw32_calls.mono_l : ∀ k, (∀ y0 y1 y2 y3, LeO (trunnionlaw32_calls.l0 k y0 y1 y2 y3) (trunnionlaw32_calls.l0 (k + 1) y0 y1 y2 y3))
  | 0 => fun _ _ _ _ r h => by simp [trunnionlaw32_calls.l0] at h
  | k + 1 => by
    have ih0 := trunnionlaw32_calls.mono_l k
    · intro y0 y1 y2 y3
      unfold trunnionlaw32_calls.l0
      repeat' first
      | (with_reducible exact ih0 _ _ _ _)
      | (with_reducible exact LeO.refl _)
      | (with_reducible exact LeO.none _)
      | (with_reducible refine LeO.ite ?_ ?_)
      | (with_reducible refine LeO.bind ?_ (fun _ => ?_))
      | exact ih0 _ _ _ _
      | exact LeO.none _
      | refine LeO.ite ?_ ?_
      | refine LeO.bind ?_ (fun _ => ?_)
theorem trunnionlaw32_calls.mono : ∀ a0 k, LeO (trunnionlaw32_calls.f k a0) (trunnionlaw32_calls.f (k + 1) a0) := by
  intro a0 k
  have ih0 := trunnionlaw32_calls.mono_l k
  unfold trunnionlaw32_calls.f
  repeat' first
      | (with_reducible exact ih0 _ _ _ _)
      | (with_reducible exact LeO.refl _)
      | (with_reducible exact LeO.none _)
      | (with_reducible refine LeO.ite ?_ ?_)
      | (with_reducible refine LeO.bind ?_ (fun _ => ?_))
      | exact ih0 _ _ _ _
      | exact LeO.none _
      | refine LeO.ite ?_ ?_
      | refine LeO.bind ?_ (fun _ => ?_)
set_option maxHeartbeats 8000000 in
set_option maxRecDepth 100000 in
theorem trunnionlaw32_calls.calls (k : Nat) (P0_ : Nat → Prop) (A0 : Option Addr) (c0 : Nat) (l0 : List (S156)) (r : List (S164)) (w : World) (hs0 : Kd.V k156 156 w w.heap.size (fun k_ => P0_ k_) (.slice A0 l0.length c0) l0) (h : trunnionlaw32_calls.f k l0 = some r) :
    Calls Try.prog 28 #[.slice A0 l0.length c0] w fun e w' => ∃ v0_ : Value, e = .returned (v0_) ∧ Kd.N k164 164 w' w.heap.size (fun k_ => (P0_ k_ ∨ w.heap.size ≤ k_)) v0_ r ∧ Below w.heap.size w w' := by
  have hu156 := Try.underlying156
  have HO0 := Aside0.mk (show Kd.V k156 156 w w.heap.size (fun k_ => (P0_ k_ ∨ w.heap.size ≤ k_)) (.slice A0 l0.length c0) l0 from Kd.V_mono hs0 (fun k_ hk => .inl hk))
  have HB := Aside0.mk (Below.refl w.heap.size w)
  have H : (trunnionlaw32_calls.l0 k ([] : List (S164)) l0 (l0.length : Int) 0) = some r := h
  clear h
  have H' := Aside0.mk H
  clear H
  go_enter Try.func28, Try.ntmps28
  go_wp2
  go_loopg [3, 8] k (fun kq v3 v8 w' => ∃ (x3_1 : List (S164)) (x8_1 : Int), v8 = .int .i64 x8_1 ∧ Aside0 (trunnionlaw32_calls.l0 kq x3_1 l0 (l0.length : Int) x8_1 = some r) ∧ Aside0 (kq ≤ k) ∧ Aside0 (Kd.N k164 164 w' w.heap.size (fun k_ => (P0_ k_ ∨ w.heap.size ≤ k_)) v3 x3_1) ∧ Aside0 (Kd.V k156 156 w' w.heap.size (fun k_ => (P0_ k_ ∨ w.heap.size ≤ k_) ∧ some k_ ≠ (v3 : Value).ownBlock) (.slice A0 l0.length c0) l0) ∧ Aside0 (Below w.heap.size w w'))
  case atStart => exact ⟨(([] : List (S164))), (0), (by first | rfl | (simp; done) | (simp [*]; done)), H', ⟨Nat.le_refl _⟩, ⟨by first | exact Kd.S_nil _ _ _ _ _ | exact Kd.N_nil _ _ _ _ _ | exact Kd.V_nil _ _ _ _ _ | exact Kd.Q_nil _ _ _ _ _ | exact Kd.R_nil _ _ _ _ _⟩, ⟨by (with_reducible repeat (first | apply Kd.V_alloc | apply Kd.V_drewN | apply Kd.V_drew)); exact Kd.V_mono HO0.out (fun _ hk => ⟨hk, (by simp [Value.ownBlock])⟩)⟩, ⟨by repeat (first | (with_reducible first | exact HB.out | apply below_alloc | apply pw_below_drewN | apply below_drew1) | exact HB.out)⟩⟩
  case round =>
    clear H'
    obtain ⟨x3_1, x8_1, rfl, HA, HK1, HO_3, HO_6, HB⟩ := hrel
    cases gk with
    | zero => exact absurd HA.out (by simp [trunnionlaw32_calls.l0])
    | succ k1 =>
      have H := HA.out
      clear HA
      simp only [trunnionlaw32_calls.l0] at H
      by_cases c2 : x8_1 < (l0.length : Int)
      · rw [if_pos c2] at H
        have c2b0 : decide (x8_1 < (l0.length : Int)) = true := decide_eq_true c2
        clear c2
        by_cases c3 : 0 ≤ x8_1
        · rw [if_pos c3] at H
          have c3b0 : decide (0 ≤ x8_1) = true := decide_eq_true c3
          clear c3
          by_cases c4 : x8_1 < (l0.length : Int)
          · rw [if_pos c4] at H
            have c4b0 : decide (x8_1 < (l0.length : Int)) = true := decide_eq_true c4
            clear c4
            by_cases c5 : x3_1.length < 3518437208883
            · rw [if_pos c5] at H
              have LMc5 := Aside0.mk c5
              clear c5
              obtain ⟨y134, hy134⟩ : ∃ y_ : List (S164), y_ = (x3_1 ++ [(⟨(rd_T156 l0 x8_1).f0, (rd_T156 l0 x8_1).f1⟩ : S164)]) := ⟨_, rfl⟩
              replace H : (trunnionlaw32_calls.l0 k1 y134 l0 (l0.length : Int) (wrap64 (x8_1 + 1))) = some r := by first | (rw [hy134]; with_reducible exact H) | (have H2_ := (Option.bind_some _ _).symm.trans H; rw [hy134]; with_reducible exact H2_) | (have H2_ := (Option.bind_some _ _).symm.trans H; with_reducible exact H2_) | with_reducible exact H | (rw [hy134]; exact H) | exact H
              have Ny134 := Aside0.mk hy134
              clear hy134
              have H' := Aside0.mk H
              clear H
              have p132 : 0 ≤ (x8_1 : Int) := of_decide_eq_true (by first | (with_reducible assumption) | assumption)
              have q132 : x8_1 < (l0.length : Int) := of_decide_eq_true (by first | (with_reducible assumption) | assumption)
              obtain ⟨ad132, A132_1, c132_1, e132, hx132_0, hx132_1, hl132_1, hi132_1⟩ := at_T156 (Kd.V_reads' HO_6.out).2.2 x8_1 p132 q132
              cases e132
              obtain ⟨ce132, hce132, hMe132, hcc132⟩ := Kd.V_get HO_6.out z156 x8_1 p132 (by first | exact q132 | exact of_decide_eq_true (by first | (with_reducible assumption) | assumption) | (have e_ := (Kd.V_reads' HO_6.out).1; omega))
              obtain ⟨ua132_1, uc132_1, rfl, ul132_1, ge132_1⟩ := k156_openF hMe132
              have hv132_1 := hcc132 1 _ rfl
              rw [add_field _ _ 1 (by omega)] at hv132_1
              replace hv132_1 := Option.some.inj (hv132_1.symm.trans hx132_1)
              injection hv132_1 with hva_ hvn_ hvc_
              rw [hva_] at ge132_1
              rw [hvc_] at ul132_1
              have HL132_1 := Aside0.mk (show Kd.V (Kd.int .u64) 113 _ w.heap.size _ _ ((rd_T156 l0 x8_1).f1) from Kd.V_mk ul132_1 ge132_1)
              clear hva_ hvn_ hvc_ ge132_1 ul132_1
              clear hcc132 hce132
              have HR132_1 := Aside0.mk hi132_1
              have HC132_1 := Aside0.mk hl132_1
              clear hi132_1 hl132_1
              replace p132 := eq_true p132
              replace q132 := eq_true q132
              go_wp2_with (first | ((with_reducible refine gate_dst (N := 5) rfl ?_); refine box_event ?hg (N := 5) ?hd (cs := #[.string (⟨#[]⟩ : ByteArray), .slice none 0 0]) (t := 156) ?hr ?_; (case hd => rfl); (case hg => rfl); (case hr => first | (go_simp; done) | (go_simp; rfl)); intro gb133 hg w6 hbox hb; have n0_ := Aside0.mk (Kd.N_below (Kd.N_elderB (by (with_reducible repeat (first | apply Kd.N_alloc | apply Kd.N_drewN | apply Kd.N_drew)); exact HO_3.out) gb133 (Nat.le_of_eq hg.symm)) hb); have n1_ := Aside0.mk (Kd.V_below (Kd.V_elderB (by (with_reducible repeat (first | apply Kd.V_alloc | apply Kd.V_drewN | apply Kd.V_drew)); exact HO_6.out) gb133 (Nat.le_of_eq hg.symm)) hb); have n2_ := Aside0.mk (Kd.V_below (Kd.V_elderB (by (with_reducible repeat (first | apply Kd.V_alloc | apply Kd.V_drewN | apply Kd.V_drew)); exact HL132_1.out) gb133 (Nat.le_of_eq hg.symm)) hb); have n3_ := Aside0.mk (Kd.C_below (by repeat (first | (with_reducible exact HR132_1.out) | (with_reducible refine Kd.C_alloc ?_ _) | (with_reducible refine Kd.C_drewN ?_ _) | (with_reducible refine Kd.C_drew ?_) | exact HR132_1.out)) hb); have n4_ := Aside0.mk (below_step (by repeat (first | (with_reducible first | exact HB.out | apply below_alloc | apply pw_below_drewN | apply below_drew1) | exact HB.out)) hb); have n5_ := Aside0.mk (hbox); have n6_ := Aside0.mk ((by rw [hg]; exact (below_size (by repeat (first | (with_reducible first | exact HB.out | apply below_alloc | apply pw_below_drewN | apply below_drew1) | exact HB.out))) : w.heap.size ≤ gb133)); have n7_ := Aside0.mk ((by rw [hg]; exact (below_size (by repeat (first | (with_reducible first | exact HB.out | apply below_alloc | apply pw_below_drewN | apply below_drew1) | exact HB.out))) : w.heap.size ≤ gb133)); clear HO_3; clear HO_6; clear HL132_1; clear HR132_1; clear HB; have HO_3 := n0_; have HO_6 := n1_; have HL132_1 := n2_; have HR132_1 := n3_; have HB := n4_; have BK133 := n5_; have GW133 := n6_; have GE133 := n7_; clear n0_ n1_ n2_ n3_ n4_ n5_ n6_ n7_; clear hb hbox hg; have hcz7_0 : w6.cell? ⟨gb133, 0, none⟩ = some (.string (⟨#[]⟩ : ByteArray)) := (blk_cell BK133.out 0).trans rfl; have hcz7_1 : w6.cell? ⟨gb133, 1, none⟩ = some (.slice none 0 0) := (blk_cell BK133.out 1).trans rfl; have hfz7_0 := blk_frozen BK133.out 0; have hfz7_1 := blk_frozen BK133.out 1) | ((with_reducible refine gate_store (t := 156) (p := 5) rfl ?_); refine store_event (t := 156) (p := 5) (v := ?vo_w8) (w1 := ((w6.setCell ⟨gb133, 0, none⟩ (.string ((rd_T156 l0 x8_1).f0))).setCell ⟨gb133, 1, none⟩ (.slice A132_1 ((rd_T156 l0 x8_1).f1).length c132_1))) ?hg ?ho ?hn ?hr ?_; (case ho => rfl); (case hg => rfl); (case hn => rfl); (case hr => first | (go_simp; done) | (go_simp; rfl)); intro w8 hw; have n0_ : Aside0 (Kd.N k164 164 w8 w.heap.size (fun k_ => (P0_ k_ ∨ w.heap.size ≤ k_) ∧ k_ ≠ gb133) u3 x3_1) := ⟨(by rw [hw]; exact (by (with_reducible repeat (first | apply Kd.N_alloc | apply Kd.N_drewN | apply Kd.N_drew)); exact Kd.N_mono (Kd.N_far (p := ⟨gb133, 1, none⟩) (Kd.N_far (p := ⟨gb133, 0, none⟩) (Kd.N_mono HO_3.out (fun k_ hk => (⟨hk, hk.2⟩ : _ ∧ k_ ≠ gb133))) (fun _ hk => hk.2) (.string ((rd_T156 l0 x8_1).f0))) (fun _ hk => hk.2) (.slice A132_1 ((rd_T156 l0 x8_1).f1).length c132_1)) (fun _ hk => ⟨hk.1.1, hk.1.2⟩)))⟩; have n1_ : Aside0 (Kd.V k156 156 w8 w.heap.size (fun k_ => (P0_ k_ ∨ w.heap.size ≤ k_) ∧ some k_ ≠ (u3 : Value).ownBlock ∧ k_ ≠ gb133) (.slice (some ad132) l0.length c0) l0) := ⟨(by rw [hw]; exact (by (with_reducible repeat (first | apply Kd.V_alloc | apply Kd.V_drewN | apply Kd.V_drew)); exact Kd.V_mono (Kd.V_far (p := ⟨gb133, 1, none⟩) (Kd.V_far (p := ⟨gb133, 0, none⟩) (Kd.V_mono HO_6.out (fun k_ hk => (⟨hk, hk.2⟩ : _ ∧ k_ ≠ gb133))) (fun _ hk => hk.2) (.string ((rd_T156 l0 x8_1).f0))) (fun _ hk => hk.2) (.slice A132_1 ((rd_T156 l0 x8_1).f1).length c132_1)) (fun _ hk => ⟨hk.1.1.1, ⟨hk.1.1.2, hk.1.2⟩⟩)))⟩; have n2_ : Aside0 (Kd.V (Kd.int .u64) 113 w8 w.heap.size (fun k_ => (P0_ k_ ∨ w.heap.size ≤ k_) ∧ some k_ ≠ (u3 : Value).ownBlock ∧ k_ ≠ gb133) (.slice A132_1 ((rd_T156 l0 x8_1).f1).length c132_1) ((rd_T156 l0 x8_1).f1)) := ⟨(by rw [hw]; exact (by (with_reducible repeat (first | apply Kd.V_alloc | apply Kd.V_drewN | apply Kd.V_drew)); exact Kd.V_mono (Kd.V_far (p := ⟨gb133, 1, none⟩) (Kd.V_far (p := ⟨gb133, 0, none⟩) (Kd.V_mono HL132_1.out (fun k_ hk => (⟨hk, hk.2⟩ : _ ∧ k_ ≠ gb133))) (fun _ hk => hk.2) (.string ((rd_T156 l0 x8_1).f0))) (fun _ hk => hk.2) (.slice A132_1 ((rd_T156 l0 x8_1).f1).length c132_1)) (fun _ hk => ⟨hk.1.1.1, ⟨hk.1.1.2, hk.1.2⟩⟩)))⟩; have n3_ : Aside0 (w8.heap[gb133]? = some (.cells #[.string ((rd_T156 l0 x8_1).f0), .slice A132_1 ((rd_T156 l0 x8_1).f1).length c132_1] 156 (0, 0))) := ⟨(by rw [hw]; exact (by (with_reducible repeat (first | refine blk_drewN ?_ _ | refine blk_drew ?_ | refine blk_alloc ?_ _)); refine blk_put (cs := #[.string ((rd_T156 l0 x8_1).f0), .slice none 0 0]) ?_ 1 _ rfl; (with_reducible repeat (first | refine blk_drewN ?_ _ | refine blk_drew ?_ | refine blk_alloc ?_ _)); refine blk_put (cs := #[.string (⟨#[]⟩ : ByteArray), .slice none 0 0]) ?_ 0 _ rfl; (with_reducible repeat (first | refine blk_drewN ?_ _ | refine blk_drew ?_ | refine blk_alloc ?_ _)); exact BK133.out))⟩; have n4_ : Aside0 (Below w.heap.size w w8) := ⟨(by rw [hw]; exact (by repeat (first | (with_reducible first | exact HB.out | apply below_alloc | apply pw_below_drewN | apply below_drew1 | refine below_set ?_ GE133.out) | exact HB.out)))⟩; clear hw; clear HO_3; clear HO_6; clear HL132_1; clear BK133; clear HB; have HO_3 := n0_; have HO_6 := n1_; have HL132_1 := n2_; have BK133 := n3_; have HB := n4_; clear n0_ n1_ n2_ n3_ n4_; have hcz9_0 : w8.cell? ⟨gb133, 0, none⟩ = some (.string ((rd_T156 l0 x8_1).f0)) := (blk_cell BK133.out 0).trans rfl; have hcz9_1 : w8.cell? ⟨gb133, 1, none⟩ = some (.slice A132_1 ((rd_T156 l0 x8_1).f1).length c132_1) := (blk_cell BK133.out 1).trans rfl; have hfz9_0 := blk_frozen BK133.out 0; have hfz9_1 := blk_frozen BK133.out 1) | ((with_reducible refine gate_builtin (b := .append) (xs := #[.tmp 12, .tmp 14]) rfl ?_); at_builtin; refine Kd.N_append k164 (w0 := w) w.heap.size rfl (.tmp 12) (.tmp 14) 72 164 (.agg #[(.string ⟨#[]⟩), (.slice none 0 0)]) 40 rfl Try.underlying72 info164 rfl (by decide) (by omega) u3 x3_1 (⟨(rd_T156 l0 x8_1).f0, (rd_T156 l0 x8_1).f1⟩ : S164) [.string ((rd_T156 l0 x8_1).f0), .slice A132_1 ((rd_T156 l0 x8_1).f1).length c132_1] (fun k_ => (P0_ k_ ∨ w.heap.size ≤ k_) ∧ k_ ≠ gb133) (fun k_ => ((fun k_ => (P0_ k_ ∨ w.heap.size ≤ k_) ∧ k_ ≠ gb133)) k_ ∧ some k_ ≠ (u3 : Value).ownBlock) rfl rfl ?aP (fun _ hk => hk) ?aF ?aO ?aB ?aS ?aL ?_; (case aP => exact (k164_mkF _ _ (⟨(rd_T156 l0 x8_1).f0, (rd_T156 l0 x8_1).f1⟩ : S164) (Kd.V_reads' (Kd.V_mono (ok' := (fun k_ => ((fun k_ => (P0_ k_ ∨ w.heap.size ≤ k_) ∧ k_ ≠ gb133)) k_ ∧ some k_ ≠ (u3 : Value).ownBlock)) (HL132_1.out) (fun k_ hk => ⟨⟨hk.1, hk.2.2⟩, hk.2.1⟩))).2.1 (Kd.V_F (Kd.V_mono (ok' := (fun k_ => ((fun k_ => (P0_ k_ ∨ w.heap.size ≤ k_) ∧ k_ ≠ gb133)) k_ ∧ some k_ ≠ (u3 : Value).ownBlock)) (HL132_1.out) (fun k_ hk => ⟨⟨hk.1, hk.2.2⟩, hk.2.1⟩))))); (case aB => exact (by repeat (first | (with_reducible first | exact HB.out | apply below_alloc | apply pw_below_drewN | apply below_drew1 | refine below_set ?_ GE133.out) | exact HB.out))); (case aF => exact (fun k_ hk => ⟨(.inr (Nat.le_trans (below_size (by repeat (first | (with_reducible first | exact HB.out | apply below_alloc | apply pw_below_drewN | apply below_drew1 | refine below_set ?_ GE133.out) | exact HB.out))) hk)), Kd.freshB (g := gb133) (o := .cells #[.string ((rd_T156 l0 x8_1).f0), .slice A132_1 ((rd_T156 l0 x8_1).f1).length c132_1] 156 (0, 0)) (by (with_reducible repeat (first | refine blk_drewN ?_ _ | refine blk_drew ?_ | refine blk_alloc ?_ _)); exact BK133.out) k_ hk⟩)); (case aO => exact (by (with_reducible repeat (first | apply Kd.N_alloc | apply Kd.N_drewN | apply Kd.N_drew)); exact HO_3.out)); (case aS => exact (below_size (by repeat (first | (with_reducible first | exact HB.out | apply below_alloc | apply pw_below_drewN | apply below_drew1 | refine below_set ?_ GE133.out) | exact HB.out)))); (case aL => have := LMc5.out; omega); intro v135 w10 ho hb hg hat; rw [← Ny134.out] at ho; have n0_ := Aside0.mk (Kd.V_afterv (ok := (fun k_ => (P0_ k_ ∨ w.heap.size ≤ k_) ∧ k_ ≠ gb133)) (by (with_reducible repeat (first | apply Kd.V_alloc | apply Kd.V_drewN | apply Kd.V_drew)); exact Kd.V_mono HO_6.out (fun _ hk => ⟨⟨hk.1, hk.2.2⟩, hk.2.1⟩)) hg hat); have n1_ := Aside0.mk (Kd.V_afterv (ok := (fun k_ => (P0_ k_ ∨ w.heap.size ≤ k_) ∧ k_ ≠ gb133)) (by (with_reducible repeat (first | apply Kd.V_alloc | apply Kd.V_drewN | apply Kd.V_drew)); exact Kd.V_mono HL132_1.out (fun _ hk => ⟨⟨hk.1, hk.2.2⟩, hk.2.1⟩)) hg hat); have n2_ := Aside0.mk (blk_grown (g := gb133) (o := .cells #[.string ((rd_T156 l0 x8_1).f0), .slice A132_1 ((rd_T156 l0 x8_1).f1).length c132_1] 156 (0, 0)) (by (with_reducible repeat (first | refine blk_drewN ?_ _ | refine blk_drew ?_ | refine blk_alloc ?_ _)); exact BK133.out) hg (Kd.N_ne HO_3.out BK133.out (by decide))); have n3_ := Aside0.mk (hb); have n4_ := Aside0.mk (ho); clear HO_6; clear HL132_1; clear BK133; clear HB; clear HO_3; have HO_6 := n0_; have HL132_1 := n1_; have BK133 := n2_; have HB := n3_; have HO136 := n4_; clear n0_ n1_ n2_ n3_ n4_; clear ho hb hg hat))
              go_roundg k1
              case measure => have := HK1.out; omega
              case rel => exact ⟨(y134), (wrap64 (x8_1 + 1)), (by first | rfl | (simp; done) | (simp [*]; done)), H', ⟨by have := HK1.out; omega⟩, ⟨by (with_reducible repeat (first | apply Kd.N_alloc | apply Kd.N_drewN | apply Kd.N_drew)); exact Kd.N_mono HO136.out (fun _ hk => hk.1)⟩, ⟨by (with_reducible repeat (first | apply Kd.V_alloc | apply Kd.V_drewN | apply Kd.V_drew)); exact Kd.V_mono HO_6.out (fun _ hk => ⟨hk.1.1, hk.2⟩)⟩, ⟨by repeat (first | (with_reducible first | exact HB.out | apply below_alloc | apply pw_below_drewN | apply below_drew1 | refine below_set ?_ GE133.out) | exact HB.out)⟩⟩
            · rw [if_neg c5] at H
              exact absurd H (by simp)
          · rw [if_neg c4] at H
            exact absurd H (by simp)
        · rw [if_neg c3] at H
          exact absurd H (by simp)
      · rw [if_neg c2] at H
        have c2b0 : decide (x8_1 < (l0.length : Int)) = false := decide_eq_false c2
        clear c2
        obtain rfl := Option.some.inj H
        go_wp2
        go_ret
        exact ⟨_, by first | rfl | (simp [errW_none, errW_some] <;> rfl) | (simp [*, errW_none, errW_some] <;> rfl), by (with_reducible repeat (first | apply Kd.N_alloc | apply Kd.N_drewN | apply Kd.N_drew)); exact HO_3.out, by repeat (first | (with_reducible first | exact HB.out | apply below_alloc | apply pw_below_drewN | apply below_drew1) | exact HB.out)⟩

-- NOT PRINTED: function 29 (host_Queue_Clear)

-- NOT PRINTED: function 32 (host_Queue_Calls)

end Go.Proofs.Ytkpjdkmggbelfaa.PHostPlays
