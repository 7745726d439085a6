/- The target of a rounding: a block of nine cells. Its methods down, nearest, raise. -/
import Derived.Test.YticonaahlplbjaaGreatDoorTnAdd
import Derived.Test.YticonaahlplbjaaGreatDoorTnClose
namespace Go.Proofs.YticonaahlplbjaaGreatDoor.Tn
open Go.RowKit Go.Proofs.YticonaahlplbjaaGreatDoor.PTopNans Go.Proofs.YticonaahlplbjaaGreatDoorW.PrintWords Go.Proofs.YticonaahlplbjaaGreatDoorW.PrintLast Go.Proofs.YticonaahlplbjaaGreatDoorW.PrintMore
set_option linter.unusedVariables false
set_option linter.unusedSimpArgs false
def i64r (n : Int) : Prop := -9223372036854775808 ≤ n ∧ n < 9223372036854775808
theorem i64_wrap (x : Int) : i64r (IntKind.i64.wrap x) := by unfold i64r; rw [IntKind.wrap_i64]; omega
theorem i64_at (x : Int) : ∃ r, IntKind.i64.wrap x = r ∧ i64r r := ⟨_, rfl, i64_wrap x⟩
/-- Only the block g is another one. -/
def OG (g : Nat) (W W' : World) : Prop := W.grownBy W' (some g)
theorem og_refl (g : Nat) (W : World) : OG g W W := ⟨rfl, rfl, rfl, Nat.le_refl _, fun _ _ _ => rfl⟩
theorem og_below {g : Nat} {W W1 W2 : World} (h : OG g W W1) (k : Below W1.heap.size W1 W2) : OG g W W2 := World.grownBy.trans h (grown_of_below k _)
theorem og_trans {g : Nat} {W W1 W2 : World} (h : OG g W W1) (k : OG g W1 W2) : OG g W W2 := World.grownBy.trans h k
theorem og_drew {g : Nat} {W W1 : World} (h : OG g W W1) : OG g W W1.drew := ⟨h.os, h.tape, h.output, h.size, h.block⟩
theorem og_alloc {g : Nat} {W W1 : World} (h : OG g W W1) (o : Obj) : OG g W (W1.alloc o) := og_below h (below_alloc (Below.refl _ _) o)
theorem og_set {g : Nat} {W W1 : World} (h : OG g W W1) (k : Nat) (v : Value) : OG g W (W1.setCell ⟨g, k, none⟩ v) :=
  World.grownBy.trans h ⟨rfl, rfl, rfl, by simp [World.setCell], fun i _ hn => Below.heap_setCell W1 ⟨g, k, none⟩ v i (fun e => hn (by rw [e]))⟩
theorem og_lift {g B : Nat} {w W W1 : World} (h : Below B w W) (hB : B ≤ W.heap.size) (hg : B ≤ g) (k : OG g W W1) : Below B w W1 := h.grown k hB (fun j e => by cases e; exact hg)
abbrev TB (hi lo ex : Int) (mo : Bool) (wd f low high : Int) (neg : Bool) : Obj := .cells #[.int .u64 hi, .int .u64 lo, .int .i64 ex, .bool mo, .int .i64 wd, .int .i64 f, .int .i64 low, .int .i64 high, .bool neg] 118 (0, 0)
/-- What a method of the number leaves. -/
def Num (g : Nat) (w : World) (wd f low high : Int) (neg : Bool) (W : World) : Prop := ∃ hi lo ex mo, u64 hi ∧ u64 lo ∧ i64r ex ∧ W.heap[g]? = some (TB hi lo ex mo wd f low high neg) ∧ OG g w W
set_option maxRecDepth 100000 in
set_option maxHeartbeats 4000000 in
theorem down_calls (g : Nat) (hi lo ex wd f low high : Int) (mo neg : Bool) (w : World) (F : w.heap[g]? = some (TB hi lo ex mo wd f low high neg)) (u1 : u64 hi) (u2 : u64 lo) (i1 : i64r ex) (n : Int) (i2 : i64r n) : Calls Tryz.prog 155 #[.pointer (some ⟨g, 0, none⟩), .int .i64 n] w fun e W => (∃ b1 b2, e = .returned (.tuple #[.bool b1, .bool b2])) ∧ Num g w wd f low high neg W := by
  have FF := Aside0.mk F
  have UU := Aside0.mk (And.intro u1 (And.intro u2 (And.intro i1 i2)))
  clear F u1 u2 i1
  by_cases c : n ≤ 0
  · have d1 : decide (n ≤ 0) = true := decide_eq_true c
    have c3 : w.cell? ⟨g, 3, none⟩ = some (.bool mo) := (blk_cell FF.out 3).trans rfl
    clear c i2
    go_enter Tryz.func155, Tryz.ntmps155
    go_wp2
    refine bodyPost_ret (v := .tuple #[.bool mo, .bool false]) (by simp [results, Tryz.results155, go_sem]) rfl ?_
    exact ⟨⟨_, _, rfl⟩, hi, lo, ex, mo, UU.out.1, UU.out.2.1, UU.out.2.2.1, FF.out, og_refl g w⟩
  · have d1 : decide (n ≤ 0) = false := decide_eq_false c
    obtain ⟨m, wa, hm⟩ := i64_at (n - 1)
    have NN := Aside0.mk hm
    clear hm
    obtain ⟨ex2, wb, hex⟩ := i64_at (ex + n)
    have EX := Aside0.mk hex
    clear c i2 hex
    have c0 : w.cell? ⟨g, 0, none⟩ = some (.int .u64 hi) := (blk_cell FF.out 0).trans rfl
    have c1 : w.cell? ⟨g, 1, none⟩ = some (.int .u64 lo) := (blk_cell FF.out 1).trans rfl
    go_enter Tryz.func155, Tryz.ntmps155
    have R1 := Aside0.mk (Right_calls hi lo m w UU.out.1 UU.out.2.1 NN.out.1 NN.out.2)
    go_wp2_with (first
      | (go_at_call_of 136 m; refine R1.out.mono ?_
         rintro e w1 ⟨h1, l1, b, rfl, v1, v2, hb⟩
         have HB := Aside0.mk hb
         have VV := Aside0.mk (And.intro v1 v2)
         have F1 := Aside0.mk ((hb.block _ (blk_lt FF.out)).trans FF.out)
         clear v1 v2 hb c0 c1 R1
         have R2 := Aside0.mk (fun W => Right_calls h1 l1 1 W VV.out.1 VV.out.2 (by decide) (by decide)))
      | (go_at_call 136; refine (R2.out _).mono ?_
         rintro e w2 ⟨h2, l2, b2, rfl, v1, v2, hb⟩
         have HB2 := Aside0.mk (og_below (og_alloc (og_below (og_refl g w) HB.out) _) hb)
         have VV2 := Aside0.mk (And.intro v1 v2)
         have F2 := Aside0.mk ((hb.block _ (blk_lt ((heap_alloc_old (.cells #[.int .u64 h1, .int .u64 l1] 98) (blk_lt F1.out)).trans F1.out))).trans ((heap_alloc_old (.cells #[.int .u64 h1, .int .u64 l1] 98) (blk_lt F1.out)).trans F1.out))
         have c0 : w2.cell? ⟨g, 0, none⟩ = some (.int .u64 hi) := (blk_cell F2.out 0).trans rfl
         have z0 : w2.frozen? ⟨g, 0, none⟩ = false := blk_frozen F2.out 0
         have c1 : w2.cell? ⟨g, 1, none⟩ = some (.int .u64 lo) := (blk_cell F2.out 1).trans rfl
         have z1 : w2.frozen? ⟨g, 1, none⟩ = false := blk_frozen F2.out 1
         have c2 : w2.cell? ⟨g, 2, none⟩ = some (.int .i64 ex) := (blk_cell F2.out 2).trans rfl
         have z2 : w2.frozen? ⟨g, 2, none⟩ = false := blk_frozen F2.out 2
         have c3 : w2.cell? ⟨g, 3, none⟩ = some (.bool mo) := (blk_cell F2.out 3).trans rfl
         have z3 : w2.frozen? ⟨g, 3, none⟩ = false := blk_frozen F2.out 3
         clear v1 v2 hb R2)
      | fail)
    all_goals
      refine bodyPost_ret (v := .tuple #[.bool _, .bool _]) (by simp only [results, Tryz.results155, go_sem]; (first | done | exact rfl | (simp; first | done | exact ⟨rfl, rfl⟩ | exact rfl))) rfl ?_
      refine ⟨⟨_, _, rfl⟩, h2, l2, ex2, false, VV2.out.1, VV2.out.2, EX.out, ?_, og_set (og_set (og_set (og_set HB2.out 0 _) 1 _) 2 _) 3 _⟩
      have P := blk_set (blk_set (blk_set (blk_set F2.out 0 (.int .u64 h2)) 1 (.int .u64 l2)) 2 (.int .i64 ex2)) 3 (.bool false)
      simpa using P
theorem Of_calls (n : Int) (w : World) : Calls Tryz.prog 124 #[.int .u64 n] w fun e w' => e = .returned (.agg #[.int .u64 0, .int .u64 n]) ∧ Below w.heap.size w w' := wide_Of.calls n 0 n w rfl
set_option maxRecDepth 100000 in
set_option maxHeartbeats 4000000 in
theorem nearest_calls (g : Nat) (hi lo ex wd f low high : Int) (mo neg : Bool) (w : World) (F : w.heap[g]? = some (TB hi lo ex mo wd f low high neg)) (u1 : u64 hi) (u2 : u64 lo) (i1 : i64r ex) (n : Int) (i2 : i64r n) : Calls Tryz.prog 141 #[.pointer (some ⟨g, 0, none⟩), .int .i64 n] w fun e W => e = .returned (.tuple #[]) ∧ Num g w wd f low high neg W := by
  have D := Aside0.mk (down_calls g hi lo ex wd f low high mo neg w F u1 u2 i1 n i2)
  clear F u1 u2 i1 i2
  go_enter Tryz.func141, Tryz.ntmps141
  go_wp2_with (first
    | (go_at_call 155; refine D.out.mono ?_
       rintro e w1 ⟨⟨b1, b2, rfl⟩, hi, lo, ex, mo, v1, v2, v3, F1, H1⟩
       have FF := Aside0.mk F1
       have VV := Aside0.mk (And.intro v1 (And.intro v2 v3))
       have HH := Aside0.mk H1
       clear v1 v2 v3 F1 H1 D
       have c0 : w1.cell? ⟨g, 0, none⟩ = some (.int .u64 hi) := (blk_cell FF.out 0).trans rfl
       have z0 : w1.frozen? ⟨g, 0, none⟩ = false := blk_frozen FF.out 0
       have c1 : w1.cell? ⟨g, 1, none⟩ = some (.int .u64 lo) := (blk_cell FF.out 1).trans rfl
       have z1 : w1.frozen? ⟨g, 1, none⟩ = false := blk_frozen FF.out 1
       have c2 : w1.cell? ⟨g, 2, none⟩ = some (.int .i64 ex) := (blk_cell FF.out 2).trans rfl
       have z2 : w1.frozen? ⟨g, 2, none⟩ = false := blk_frozen FF.out 2
       have c3 : w1.cell? ⟨g, 3, none⟩ = some (.bool mo) := (blk_cell FF.out 3).trans rfl
       have z3 : w1.frozen? ⟨g, 3, none⟩ = false := blk_frozen FF.out 3
       skip)
    | fail)
  all_goals clear c0 c1 c2 c3 z0 z1 z2 z3
  all_goals
    have F2 : Aside0 ((w1.setCell ⟨g, 3, none⟩ (.bool false)).heap[g]? = some (TB hi lo ex false wd f low high neg)) := ⟨by have P := blk_set FF.out 3 (.bool false); simpa using P⟩
    have H2 := Aside0.mk (og_set HH.out 3 (.bool false))
    obtain ⟨W2, hW2⟩ : ∃ V, V = w1.setCell ⟨g, 3, none⟩ (.bool false) := ⟨_, rfl⟩
    rw [← hW2] at F2 H2
    rw [← hW2]
    clear hW2
  · have F3 := Aside0.mk (show W2.drew.heap[g]? = _ from F2.out)
    have H3 := Aside0.mk (og_drew H2.out)
    refine wp_region_held_drew (S := fun _ => True) (by kernel_rfl) (trivial) (fun hHeld => ?_)
    generalize W2.drew = Wd at *
    refine tk (i := 0) ?_
    (try simp only [Act.put, g4, g5, g6])
    refine tk (i := 1) ?_
    (try simp only [Act.put, g4, g5, g6])
    refine tk (i := 2) ?_
    (try simp only [Act.put, g4, g5, g6])
    refine tk (i := 3) ?_
    (try simp only [Act.put, g4, g5, g6])
    refine wpAnyH_ready (rs := [4, 5]) (by kernel_rfl) (by simp) ?_
    refine AllReadyH.cons (o := ?ob1) ?hb1 (fun K hK => ?sb1) ?mb1
    case hb1 => simp only [g1, g2, g3]; rfl
    case sb1 =>
      have c0 : Wd.cell? ⟨g, 0, none⟩ = some (.int .u64 hi) := (blk_cell F3.out 0).trans rfl
      have c1 : Wd.cell? ⟨g, 1, none⟩ = some (.int .u64 lo) := (blk_cell F3.out 1).trans rfl
      go_simp
      clear c0 c1
      refine hK.out _ _ (trivial) (fun hHeld2 => ?_)
      clear hK K hHeld
      have hHeld := hHeld2
      clear hHeld2
      (try simp only [Act.put, g4, g5, g6])
      refine wpAnyH_ready (rs := [5]) (by kernel_rfl) (by simp) ?_
      refine AllReadyH.cons (o := ?ob2) ?hb2 (fun K hK => ?sb2) ?mb2
      case hb2 => simp only [g1, g2, g3]; rfl
      case sb2 =>
        go_simp
        refine (Of_calls 1 _).mono ?_
        rintro e w_1 ⟨rfl, hb⟩
        have F_2 := Aside0.mk ((hb.block _ (blk_lt F3.out)).trans F3.out)
        have H_2 := Aside0.mk (og_below H3.out hb)
        clear hb
        refine hK.out _ _ (trivial) (fun hHeld2 => ?_)
        clear hK K hHeld
        have hHeld := hHeld2
        clear hHeld2
        (try simp only [Act.put, g4, g5, g6])
        refine wpAnyH_ready (rs := [6]) (by kernel_rfl) (by simp) ?_
        refine AllReadyH.cons (o := ?ob3) ?hb3 (fun K hK => ?sb3) ?mb3
        case hb3 => simp only [g1, g2, g3]; rfl
        case sb3 =>
          go_simp
          refine (Add_calls hi lo 0 1 _ VV.out.1 VV.out.2.1 (by unfold u64; decide) (by unfold u64; decide)).mono ?_
          rintro e w_3 ⟨h3, l3, rfl, v1, v2, hb⟩
          have F_4 := Aside0.mk ((hb.block _ (blk_lt F_2.out)).trans F_2.out)
          have H_4 := Aside0.mk (og_below H_2.out hb)
          have V3 := Aside0.mk (And.intro v1 v2)
          clear hb v1 v2
          refine hK.out _ _ (trivial) (fun hHeld2 => ?_)
          clear hK K hHeld
          have hHeld := hHeld2
          clear hHeld2
          (try simp only [Act.put, g4, g5, g6])
          refine tk (i := 7) ?_
          (try simp only [Act.put, g4, g5, g6])
          refine tk (i := 8) ?_
          (try simp only [Act.put, g4, g5, g6])
          refine wpAnyH_ready (rs := [9]) (by kernel_rfl) (by simp) ?_
          refine AllReadyH.cons (o := ?ob4) ?hb4 (fun K hK => ?sb4) ?mb4
          case hb4 => simp only [g1, g2, g3]; rfl
          case sb4 =>
            have c0 : w_3.cell? ⟨g, 0, none⟩ = some (.int .u64 hi) := (blk_cell F_4.out 0).trans rfl
            have z0 : w_3.frozen? ⟨g, 0, none⟩ = false := blk_frozen F_4.out 0
            have c1 : w_3.cell? ⟨g, 1, none⟩ = some (.int .u64 lo) := (blk_cell F_4.out 1).trans rfl
            have z1 : w_3.frozen? ⟨g, 1, none⟩ = false := blk_frozen F_4.out 1
            go_simp
            clear c0 c1 z0 z1
            refine hK.out _ _ (trivial) (fun hHeld2 => ?_)
            clear hK K hHeld
            have hHeld := hHeld2
            clear hHeld2
            (try simp only [Act.put, g4, g5, g6])
            refine wpAnyH_done (by kernel_rfl) ?_ _
            go_wp2
            refine bodyPost_end (v := .tuple #[]) (results_none rfl _ _ _) rfl ?_
            exact ⟨rfl, h3, l3, ex, false, V3.out.1, V3.out.2, VV.out.2.2, by have P := blk_set (blk_set F_4.out 0 (.int .u64 h3)) 1 (.int .u64 l3); simpa using P, og_set (og_set H_4.out 0 _) 1 _⟩
          exact AllReadyH.nil
        exact AllReadyH.nil
      exact AllReadyH.nil
    refine AllReadyH.cons (o := ?ob5) ?hb5 (fun K hK => ?sb5) ?mb5
    case hb5 => simp only [g1, g2, g3]; rfl
    case sb5 =>
      go_simp
      refine (Of_calls 1 _).mono ?_
      rintro e w_5 ⟨rfl, hb⟩
      have F_6 := Aside0.mk ((hb.block _ (blk_lt F3.out)).trans F3.out)
      have H_6 := Aside0.mk (og_below H3.out hb)
      clear hb
      refine hK.out _ _ (trivial) (fun hHeld2 => ?_)
      clear hK K hHeld
      have hHeld := hHeld2
      clear hHeld2
      (try simp only [Act.put, g4, g5, g6])
      refine wpAnyH_ready (rs := [4]) (by kernel_rfl) (by simp) ?_
      refine AllReadyH.cons (o := ?ob6) ?hb6 (fun K hK => ?sb6) ?mb6
      case hb6 => simp only [g1, g2, g3]; rfl
      case sb6 =>
        have c0 : w_5.cell? ⟨g, 0, none⟩ = some (.int .u64 hi) := (blk_cell F_6.out 0).trans rfl
        have c1 : w_5.cell? ⟨g, 1, none⟩ = some (.int .u64 lo) := (blk_cell F_6.out 1).trans rfl
        go_simp
        clear c0 c1
        refine hK.out _ _ (trivial) (fun hHeld2 => ?_)
        clear hK K hHeld
        have hHeld := hHeld2
        clear hHeld2
        (try simp only [Act.put, g4, g5, g6])
        refine wpAnyH_ready (rs := [6]) (by kernel_rfl) (by simp) ?_
        refine AllReadyH.cons (o := ?ob7) ?hb7 (fun K hK => ?sb7) ?mb7
        case hb7 => simp only [g1, g2, g3]; rfl
        case sb7 =>
          go_simp
          refine (Add_calls hi lo 0 1 _ VV.out.1 VV.out.2.1 (by unfold u64; decide) (by unfold u64; decide)).mono ?_
          rintro e w_7 ⟨h3, l3, rfl, v1, v2, hb⟩
          have F_8 := Aside0.mk ((hb.block _ (blk_lt F_6.out)).trans F_6.out)
          have H_8 := Aside0.mk (og_below H_6.out hb)
          have V3 := Aside0.mk (And.intro v1 v2)
          clear hb v1 v2
          refine hK.out _ _ (trivial) (fun hHeld2 => ?_)
          clear hK K hHeld
          have hHeld := hHeld2
          clear hHeld2
          (try simp only [Act.put, g4, g5, g6])
          refine tk (i := 7) ?_
          (try simp only [Act.put, g4, g5, g6])
          refine tk (i := 8) ?_
          (try simp only [Act.put, g4, g5, g6])
          refine wpAnyH_ready (rs := [9]) (by kernel_rfl) (by simp) ?_
          refine AllReadyH.cons (o := ?ob8) ?hb8 (fun K hK => ?sb8) ?mb8
          case hb8 => simp only [g1, g2, g3]; rfl
          case sb8 =>
            have c0 : w_7.cell? ⟨g, 0, none⟩ = some (.int .u64 hi) := (blk_cell F_8.out 0).trans rfl
            have z0 : w_7.frozen? ⟨g, 0, none⟩ = false := blk_frozen F_8.out 0
            have c1 : w_7.cell? ⟨g, 1, none⟩ = some (.int .u64 lo) := (blk_cell F_8.out 1).trans rfl
            have z1 : w_7.frozen? ⟨g, 1, none⟩ = false := blk_frozen F_8.out 1
            go_simp
            clear c0 c1 z0 z1
            refine hK.out _ _ (trivial) (fun hHeld2 => ?_)
            clear hK K hHeld
            have hHeld := hHeld2
            clear hHeld2
            (try simp only [Act.put, g4, g5, g6])
            refine wpAnyH_done (by kernel_rfl) ?_ _
            go_wp2
            refine bodyPost_end (v := .tuple #[]) (results_none rfl _ _ _) rfl ?_
            exact ⟨rfl, h3, l3, ex, false, V3.out.1, V3.out.2, VV.out.2.2, by have P := blk_set (blk_set F_8.out 0 (.int .u64 h3)) 1 (.int .u64 l3); simpa using P, og_set (og_set H_8.out 0 _) 1 _⟩
          exact AllReadyH.nil
        exact AllReadyH.nil
      exact AllReadyH.nil
    exact AllReadyH.nil
  · have F3 := Aside0.mk (show W2.drew.heap[g]? = _ from F2.out)
    have H3 := Aside0.mk (og_drew H2.out)
    refine wp_region_held_drew (S := fun _ => True) (by kernel_rfl) (trivial) (fun hHeld => ?_)
    generalize W2.drew = Wd at *
    refine tk (i := 0) ?_
    (try simp only [Act.put, g4, g5, g6])
    refine tk (i := 1) ?_
    (try simp only [Act.put, g4, g5, g6])
    refine tk (i := 2) ?_
    (try simp only [Act.put, g4, g5, g6])
    refine tk (i := 3) ?_
    (try simp only [Act.put, g4, g5, g6])
    refine wpAnyH_ready (rs := [4, 5]) (by kernel_rfl) (by simp) ?_
    refine AllReadyH.cons (o := ?ob9) ?hb9 (fun K hK => ?sb9) ?mb9
    case hb9 => simp only [g1, g2, g3]; rfl
    case sb9 =>
      have c0 : Wd.cell? ⟨g, 0, none⟩ = some (.int .u64 hi) := (blk_cell F3.out 0).trans rfl
      have c1 : Wd.cell? ⟨g, 1, none⟩ = some (.int .u64 lo) := (blk_cell F3.out 1).trans rfl
      go_simp
      clear c0 c1
      refine hK.out _ _ (trivial) (fun hHeld2 => ?_)
      clear hK K hHeld
      have hHeld := hHeld2
      clear hHeld2
      (try simp only [Act.put, g4, g5, g6])
      refine wpAnyH_ready (rs := [5]) (by kernel_rfl) (by simp) ?_
      refine AllReadyH.cons (o := ?ob10) ?hb10 (fun K hK => ?sb10) ?mb10
      case hb10 => simp only [g1, g2, g3]; rfl
      case sb10 =>
        go_simp
        refine (Of_calls 1 _).mono ?_
        rintro e w_9 ⟨rfl, hb⟩
        have F_10 := Aside0.mk ((hb.block _ (blk_lt F3.out)).trans F3.out)
        have H_10 := Aside0.mk (og_below H3.out hb)
        clear hb
        refine hK.out _ _ (trivial) (fun hHeld2 => ?_)
        clear hK K hHeld
        have hHeld := hHeld2
        clear hHeld2
        (try simp only [Act.put, g4, g5, g6])
        refine wpAnyH_ready (rs := [6]) (by kernel_rfl) (by simp) ?_
        refine AllReadyH.cons (o := ?ob11) ?hb11 (fun K hK => ?sb11) ?mb11
        case hb11 => simp only [g1, g2, g3]; rfl
        case sb11 =>
          go_simp
          refine (Add_calls hi lo 0 1 _ VV.out.1 VV.out.2.1 (by unfold u64; decide) (by unfold u64; decide)).mono ?_
          rintro e w_11 ⟨h3, l3, rfl, v1, v2, hb⟩
          have F_12 := Aside0.mk ((hb.block _ (blk_lt F_10.out)).trans F_10.out)
          have H_12 := Aside0.mk (og_below H_10.out hb)
          have V3 := Aside0.mk (And.intro v1 v2)
          clear hb v1 v2
          refine hK.out _ _ (trivial) (fun hHeld2 => ?_)
          clear hK K hHeld
          have hHeld := hHeld2
          clear hHeld2
          (try simp only [Act.put, g4, g5, g6])
          refine tk (i := 7) ?_
          (try simp only [Act.put, g4, g5, g6])
          refine tk (i := 8) ?_
          (try simp only [Act.put, g4, g5, g6])
          refine wpAnyH_ready (rs := [9]) (by kernel_rfl) (by simp) ?_
          refine AllReadyH.cons (o := ?ob12) ?hb12 (fun K hK => ?sb12) ?mb12
          case hb12 => simp only [g1, g2, g3]; rfl
          case sb12 =>
            have c0 : w_11.cell? ⟨g, 0, none⟩ = some (.int .u64 hi) := (blk_cell F_12.out 0).trans rfl
            have z0 : w_11.frozen? ⟨g, 0, none⟩ = false := blk_frozen F_12.out 0
            have c1 : w_11.cell? ⟨g, 1, none⟩ = some (.int .u64 lo) := (blk_cell F_12.out 1).trans rfl
            have z1 : w_11.frozen? ⟨g, 1, none⟩ = false := blk_frozen F_12.out 1
            go_simp
            clear c0 c1 z0 z1
            refine hK.out _ _ (trivial) (fun hHeld2 => ?_)
            clear hK K hHeld
            have hHeld := hHeld2
            clear hHeld2
            (try simp only [Act.put, g4, g5, g6])
            refine wpAnyH_done (by kernel_rfl) ?_ _
            go_wp2
            refine bodyPost_end (v := .tuple #[]) (results_none rfl _ _ _) rfl ?_
            exact ⟨rfl, h3, l3, ex, false, V3.out.1, V3.out.2, VV.out.2.2, by have P := blk_set (blk_set F_12.out 0 (.int .u64 h3)) 1 (.int .u64 l3); simpa using P, og_set (og_set H_12.out 0 _) 1 _⟩
          exact AllReadyH.nil
        exact AllReadyH.nil
      exact AllReadyH.nil
    refine AllReadyH.cons (o := ?ob13) ?hb13 (fun K hK => ?sb13) ?mb13
    case hb13 => simp only [g1, g2, g3]; rfl
    case sb13 =>
      go_simp
      refine (Of_calls 1 _).mono ?_
      rintro e w_13 ⟨rfl, hb⟩
      have F_14 := Aside0.mk ((hb.block _ (blk_lt F3.out)).trans F3.out)
      have H_14 := Aside0.mk (og_below H3.out hb)
      clear hb
      refine hK.out _ _ (trivial) (fun hHeld2 => ?_)
      clear hK K hHeld
      have hHeld := hHeld2
      clear hHeld2
      (try simp only [Act.put, g4, g5, g6])
      refine wpAnyH_ready (rs := [4]) (by kernel_rfl) (by simp) ?_
      refine AllReadyH.cons (o := ?ob14) ?hb14 (fun K hK => ?sb14) ?mb14
      case hb14 => simp only [g1, g2, g3]; rfl
      case sb14 =>
        have c0 : w_13.cell? ⟨g, 0, none⟩ = some (.int .u64 hi) := (blk_cell F_14.out 0).trans rfl
        have c1 : w_13.cell? ⟨g, 1, none⟩ = some (.int .u64 lo) := (blk_cell F_14.out 1).trans rfl
        go_simp
        clear c0 c1
        refine hK.out _ _ (trivial) (fun hHeld2 => ?_)
        clear hK K hHeld
        have hHeld := hHeld2
        clear hHeld2
        (try simp only [Act.put, g4, g5, g6])
        refine wpAnyH_ready (rs := [6]) (by kernel_rfl) (by simp) ?_
        refine AllReadyH.cons (o := ?ob15) ?hb15 (fun K hK => ?sb15) ?mb15
        case hb15 => simp only [g1, g2, g3]; rfl
        case sb15 =>
          go_simp
          refine (Add_calls hi lo 0 1 _ VV.out.1 VV.out.2.1 (by unfold u64; decide) (by unfold u64; decide)).mono ?_
          rintro e w_15 ⟨h3, l3, rfl, v1, v2, hb⟩
          have F_16 := Aside0.mk ((hb.block _ (blk_lt F_14.out)).trans F_14.out)
          have H_16 := Aside0.mk (og_below H_14.out hb)
          have V3 := Aside0.mk (And.intro v1 v2)
          clear hb v1 v2
          refine hK.out _ _ (trivial) (fun hHeld2 => ?_)
          clear hK K hHeld
          have hHeld := hHeld2
          clear hHeld2
          (try simp only [Act.put, g4, g5, g6])
          refine tk (i := 7) ?_
          (try simp only [Act.put, g4, g5, g6])
          refine tk (i := 8) ?_
          (try simp only [Act.put, g4, g5, g6])
          refine wpAnyH_ready (rs := [9]) (by kernel_rfl) (by simp) ?_
          refine AllReadyH.cons (o := ?ob16) ?hb16 (fun K hK => ?sb16) ?mb16
          case hb16 => simp only [g1, g2, g3]; rfl
          case sb16 =>
            have c0 : w_15.cell? ⟨g, 0, none⟩ = some (.int .u64 hi) := (blk_cell F_16.out 0).trans rfl
            have z0 : w_15.frozen? ⟨g, 0, none⟩ = false := blk_frozen F_16.out 0
            have c1 : w_15.cell? ⟨g, 1, none⟩ = some (.int .u64 lo) := (blk_cell F_16.out 1).trans rfl
            have z1 : w_15.frozen? ⟨g, 1, none⟩ = false := blk_frozen F_16.out 1
            go_simp
            clear c0 c1 z0 z1
            refine hK.out _ _ (trivial) (fun hHeld2 => ?_)
            clear hK K hHeld
            have hHeld := hHeld2
            clear hHeld2
            (try simp only [Act.put, g4, g5, g6])
            refine wpAnyH_done (by kernel_rfl) ?_ _
            go_wp2
            refine bodyPost_end (v := .tuple #[]) (results_none rfl _ _ _) rfl ?_
            exact ⟨rfl, h3, l3, ex, false, V3.out.1, V3.out.2, VV.out.2.2, by have P := blk_set (blk_set F_16.out 0 (.int .u64 h3)) 1 (.int .u64 l3); simpa using P, og_set (og_set H_16.out 0 _) 1 _⟩
          exact AllReadyH.nil
        exact AllReadyH.nil
      exact AllReadyH.nil
    exact AllReadyH.nil
  all_goals
    refine bodyPost_end (v := .tuple #[]) (results_none rfl _ _ _) rfl ?_
    exact ⟨rfl, hi, lo, ex, false, VV.out.1, VV.out.2.1, VV.out.2.2, F2.out, H2.out⟩
set_option maxRecDepth 100000 in
set_option maxHeartbeats 4000000 in
theorem raise_calls (g : Nat) (hi lo ex wd f low high : Int) (mo neg : Bool) (w : World) (F : w.heap[g]? = some (TB hi lo ex mo wd f low high neg)) (u1 : u64 hi) (u2 : u64 lo) (i1 : i64r ex) : Calls Tryz.prog 142 #[.pointer (some ⟨g, 0, none⟩)] w fun e W => (∃ b, e = .returned (.bool b)) ∧ Num g w wd f low high neg W := by
  have FF := Aside0.mk F
  have HH := Aside0.mk (og_refl g w)
  have I1 := Aside0.mk i1
  clear F i1
  obtain ⟨a, wa, hwa⟩ := i64_at (f + 1)
  obtain ⟨c, wc, hwc⟩ := i64_at (ex - low)
  have HC := Aside0.mk hwc
  clear hwa hwc
  go_enter Tryz.func142, Tryz.ntmps142
  go_wp2
  have FD := Aside0.mk (show w.drew.heap[g]? = _ from FF.out)
  have HD := Aside0.mk (og_drew HH.out)
  refine wp_region_held_drew (S := fun W => W.cell? ⟨g, 0, none⟩ = some (.int .u64 hi) ∧ W.cell? ⟨g, 1, none⟩ = some (.int .u64 lo) ∧ W.cell? ⟨g, 2, none⟩ = some (.int .i64 ex) ∧ W.cell? ⟨g, 5, none⟩ = some (.int .i64 f) ∧ W.cell? ⟨g, 6, none⟩ = some (.int .i64 low)) (by kernel_rfl) (⟨(blk_cell FD.out 0).trans rfl, (blk_cell FD.out 1).trans rfl, (blk_cell FD.out 2).trans rfl, (blk_cell FD.out 5).trans rfl, (blk_cell FD.out 6).trans rfl⟩) (fun hHeld => ?_)
  generalize w.drew = Wd at *
  refine tk (i := 0) ?_
  (try simp only [Act.put, g4, g5, g6])
  refine tk (i := 1) ?_
  (try simp only [Act.put, g4, g5, g6])
  refine tk (i := 2) ?_
  (try simp only [Act.put, g4, g5, g6])
  refine tk (i := 3) ?_
  (try simp only [Act.put, g4, g5, g6])
  refine tk (i := 4) ?_
  (try simp only [Act.put, g4, g5, g6])
  refine tk (i := 5) ?_
  (try simp only [Act.put, g4, g5, g6])
  refine tk (i := 6) ?_
  (try simp only [Act.put, g4, g5, g6])
  refine tk (i := 7) ?_
  (try simp only [Act.put, g4, g5, g6])
  refine tk (i := 8) ?_
  (try simp only [Act.put, g4, g5, g6])
  refine tk (i := 9) ?_
  (try simp only [Act.put, g4, g5, g6])
  refine tk (i := 12) ?_
  (try simp only [Act.put, g4, g5, g6])
  refine tk (i := 13) ?_
  (try simp only [Act.put, g4, g5, g6])
  refine tk (i := 14) ?_
  (try simp only [Act.put, g4, g5, g6])
  refine tk (i := 15) ?_
  (try simp only [Act.put, g4, g5, g6])
  refine tk (i := 16) ?_
  (try simp only [Act.put, g4, g5, g6])
  refine tk (i := 17) ?_
  (try simp only [Act.put, g4, g5, g6])
  refine tk (i := 18) ?_
  (try simp only [Act.put, g4, g5, g6])
  refine tk (i := 19) ?_
  (try simp only [Act.put, g4, g5, g6])
  refine tk (i := 20) ?_
  (try simp only [Act.put, g4, g5, g6])
  refine tk (i := 21) ?_
  (try simp only [Act.put, g4, g5, g6])
  refine wpAnyH_ready (rs := [10]) (by kernel_rfl) (by simp) ?_
  refine AllReadyH.cons (o := ?ob17) ?hb17 (fun K hK => ?sb17) ?mb17
  case hb17 => simp only [g1, g2, g3]; rfl
  case sb17 =>
    go_simp
    refine (Len_calls hi lo _ u1 u2).mono ?_
    rintro e w_17 ⟨r, rfl, hr0, hr1, hb⟩
    have F_18 := Aside0.mk ((hb.block _ (blk_lt FD.out)).trans FD.out)
    have H_18 := Aside0.mk (og_below HD.out hb)
    clear hb
    obtain ⟨b, wb, hwb⟩ := i64_at (a - r)
    have BC := Aside0.mk (And.intro hwb HC.out)
    clear hr0 hr1 hwb
    refine hK.out _ _ (⟨(blk_cell F_18.out 0).trans rfl, (blk_cell F_18.out 1).trans rfl, (blk_cell F_18.out 2).trans rfl, (blk_cell F_18.out 5).trans rfl, (blk_cell F_18.out 6).trans rfl⟩) (fun hHeld2 => ?_)
    clear hK K hHeld
    have hHeld := hHeld2
    clear hHeld2
    (try simp only [Act.put, g4, g5, g6])
    refine tk (i := 11) ?_
    (try simp only [Act.put, g4, g5, g6])
    refine tk (i := 22) ?_
    (try simp only [Act.put, g4, g5, g6])
    refine tk (i := 23) ?_
    (try simp only [Act.put, g4, g5, g6])
    refine wpAnyH_done (by kernel_rfl) ?_ _
    have UP0 : i64r (min b c) := by unfold i64r at *; have := BC.out.1.1; have := BC.out.1.2; have := BC.out.2.1; have := BC.out.2.2; omega
    obtain ⟨up, hup⟩ : ∃ u, u = min b c := ⟨_, rfl⟩
    rw [← hup] at UP0
    rw [← hup]
    have UP := Aside0.mk UP0
    clear hup UP0
    obtain ⟨ex3, wx, hx3⟩ := i64_at (ex - up)
    have EX3 := Aside0.mk hx3
    clear hx3
    by_cases hu : up > 0
    · have d1 : decide (up > 0) = true := decide_eq_true hu
      clear hu
      go_wp2
      have FD19 := Aside0.mk (show w_17.drew.heap[g]? = _ from F_18.out)
      have HD19 := Aside0.mk (og_drew H_18.out)
      refine wp_region_held_drew (S := fun _ => True) (by kernel_rfl) (trivial) (fun hHeld => ?_)
      generalize w_17.drew = Wd19 at *
      refine tk (i := 0) ?_
      (try simp only [Act.put, g4, g5, g6])
      refine tk (i := 1) ?_
      (try simp only [Act.put, g4, g5, g6])
      refine tk (i := 2) ?_
      (try simp only [Act.put, g4, g5, g6])
      refine tk (i := 3) ?_
      (try simp only [Act.put, g4, g5, g6])
      refine tk (i := 4) ?_
      (try simp only [Act.put, g4, g5, g6])
      refine tk (i := 5) ?_
      (try simp only [Act.put, g4, g5, g6])
      refine tk (i := 7) ?_
      (try simp only [Act.put, g4, g5, g6])
      refine tk (i := 9) ?_
      (try simp only [Act.put, g4, g5, g6])
      refine tk (i := 10) ?_
      (try simp only [Act.put, g4, g5, g6])
      refine tk (i := 11) ?_
      (try simp only [Act.put, g4, g5, g6])
      refine tk (i := 12) ?_
      (try simp only [Act.put, g4, g5, g6])
      refine tk (i := 14) ?_
      (try simp only [Act.put, g4, g5, g6])
      refine wpAnyH_ready (rs := [6, 13]) (by kernel_rfl) (by simp) ?_
      refine AllReadyH.cons (o := ?ob18) ?hb18 (fun K hK => ?sb18) ?mb18
      case hb18 => simp only [g1, g2, g3]; rfl
      case sb18 =>
        have c0 : Wd19.cell? ⟨g, 0, none⟩ = some (.int .u64 hi) := (blk_cell FD19.out 0).trans rfl
        have c1 : Wd19.cell? ⟨g, 1, none⟩ = some (.int .u64 lo) := (blk_cell FD19.out 1).trans rfl
        go_simp
        clear c0 c1
        refine hK.out _ _ (trivial) (fun hHeld2 => ?_)
        clear hK K hHeld
        have hHeld := hHeld2
        clear hHeld2
        (try simp only [Act.put, g4, g5, g6])
        refine wpAnyH_ready (rs := [8, 13]) (by kernel_rfl) (by simp) ?_
        refine AllReadyH.cons (o := ?ob19) ?hb19 (fun K hK => ?sb19) ?mb19
        case hb19 => simp only [g1, g2, g3]; rfl
        case sb19 =>
          go_simp
          refine (Left_calls hi lo up _ u1 u2 UP.out.1 UP.out.2).mono ?_
          rintro e w_20 ⟨h3, l3, rfl, v1, v2, hb⟩
          have F_21 := Aside0.mk ((hb.block _ (blk_lt FD19.out)).trans FD19.out)
          have H_21 := Aside0.mk (og_below HD19.out hb)
          have V3 := Aside0.mk (And.intro v1 v2)
          clear hb v1 v2
          refine hK.out _ _ (trivial) (fun hHeld2 => ?_)
          clear hK K hHeld
          have hHeld := hHeld2
          clear hHeld2
          (try simp only [Act.put, g4, g5, g6])
          refine wpAnyH_ready (rs := [13]) (by kernel_rfl) (by simp) ?_
          refine AllReadyH.cons (o := ?ob20) ?hb20 (fun K hK => ?sb20) ?mb20
          case hb20 => simp only [g1, g2, g3]; rfl
          case sb20 =>
            have c2 : w_20.cell? ⟨g, 2, none⟩ = some (.int .i64 ex) := (blk_cell F_21.out 2).trans rfl
            go_simp
            clear c2
            refine hK.out _ _ (trivial) (fun hHeld2 => ?_)
            clear hK K hHeld
            have hHeld := hHeld2
            clear hHeld2
            (try simp only [Act.put, g4, g5, g6])
            refine tk (i := 15) ?_
            (try simp only [Act.put, g4, g5, g6])
            refine tk (i := 16) ?_
            (try simp only [Act.put, g4, g5, g6])
            refine tk (i := 17) ?_
            (try simp only [Act.put, g4, g5, g6])
            refine tk (i := 18) ?_
            (try simp only [Act.put, g4, g5, g6])
            refine wpAnyH_ready (rs := [19]) (by kernel_rfl) (by simp) ?_
            refine AllReadyH.cons (o := ?ob21) ?hb21 (fun K hK => ?sb21) ?mb21
            case hb21 => simp only [g1, g2, g3]; rfl
            case sb21 =>
              have c0 : w_20.cell? ⟨g, 0, none⟩ = some (.int .u64 hi) := (blk_cell F_21.out 0).trans rfl
              have z0 : w_20.frozen? ⟨g, 0, none⟩ = false := blk_frozen F_21.out 0
              have c1 : w_20.cell? ⟨g, 1, none⟩ = some (.int .u64 lo) := (blk_cell F_21.out 1).trans rfl
              have z1 : w_20.frozen? ⟨g, 1, none⟩ = false := blk_frozen F_21.out 1
              go_simp
              clear c0 c1 z0 z1
              have FS22 : ((w_20.setCell ⟨g, 0, none⟩ (.int .u64 h3)).setCell ⟨g, 1, none⟩ (.int .u64 l3)).heap[g]? = some (TB h3 l3 ex mo wd f low high neg) := by have P := blk_set (blk_set F_21.out 0 (.int .u64 h3)) 1 (.int .u64 l3); simpa using P
              have HS22 := og_set (og_set H_21.out 0 (.int .u64 h3)) 1 (.int .u64 l3)
              obtain ⟨WS22, hWS22⟩ : ∃ V, V = (w_20.setCell ⟨g, 0, none⟩ (.int .u64 h3)).setCell ⟨g, 1, none⟩ (.int .u64 l3) := ⟨_, rfl⟩
              rw [← hWS22] at FS22 HS22
              rw [← hWS22]
              clear hWS22
              have GS22 := Aside0.mk FS22
              have KS22 := Aside0.mk HS22
              clear FS22 HS22
              refine hK.out _ _ (trivial) (fun hHeld2 => ?_)
              clear hK K hHeld
              have hHeld := hHeld2
              clear hHeld2
              (try simp only [Act.put, g4, g5, g6])
              refine tk (i := 20) ?_
              (try simp only [Act.put, g4, g5, g6])
              refine tk (i := 21) ?_
              (try simp only [Act.put, g4, g5, g6])
              refine tk (i := 22) ?_
              (try simp only [Act.put, g4, g5, g6])
              refine wpAnyH_ready (rs := [23]) (by kernel_rfl) (by simp) ?_
              refine AllReadyH.cons (o := ?ob22) ?hb22 (fun K hK => ?sb22) ?mb22
              case hb22 => simp only [g1, g2, g3]; rfl
              case sb22 =>
                have c2 : WS22.cell? ⟨g, 2, none⟩ = some (.int .i64 ex) := (blk_cell GS22.out 2).trans rfl
                have z2 : WS22.frozen? ⟨g, 2, none⟩ = false := blk_frozen GS22.out 2
                go_simp
                clear c2 z2
                have FS23 : (WS22.setCell ⟨g, 2, none⟩ (.int .i64 ex3)).heap[g]? = some (TB h3 l3 ex3 mo wd f low high neg) := by have P := blk_set GS22.out 2 (.int .i64 ex3); simpa using P
                have HS23 := og_set KS22.out 2 (.int .i64 ex3)
                obtain ⟨WS23, hWS23⟩ : ∃ V, V = WS22.setCell ⟨g, 2, none⟩ (.int .i64 ex3) := ⟨_, rfl⟩
                rw [← hWS23] at FS23 HS23
                rw [← hWS23]
                clear hWS23
                have GS23 := Aside0.mk FS23
                have KS23 := Aside0.mk HS23
                clear FS23 HS23
                refine hK.out _ _ (trivial) (fun hHeld2 => ?_)
                clear hK K hHeld
                have hHeld := hHeld2
                clear hHeld2
                (try simp only [Act.put, g4, g5, g6])
                refine wpAnyH_done (by kernel_rfl) ?_ _
                go_wp2
                have FD24 := Aside0.mk (show WS23.drew.heap[g]? = _ from GS23.out)
                have HD24 := Aside0.mk (og_drew KS23.out)
                refine wp_region_held_drew (S := fun W => W.cell? ⟨g, 2, none⟩ = some (.int .i64 ex3) ∧ W.cell? ⟨g, 7, none⟩ = some (.int .i64 high)) (by kernel_rfl) (⟨(blk_cell FD24.out 2).trans rfl, (blk_cell FD24.out 7).trans rfl⟩) (fun hHeld => ?_)
                generalize WS23.drew = Wd24 at *
                refine tk (i := 0) ?_
                (try simp only [Act.put, g4, g5, g6])
                refine tk (i := 1) ?_
                (try simp only [Act.put, g4, g5, g6])
                refine tk (i := 2) ?_
                (try simp only [Act.put, g4, g5, g6])
                refine tk (i := 3) ?_
                (try simp only [Act.put, g4, g5, g6])
                refine tk (i := 4) ?_
                (try simp only [Act.put, g4, g5, g6])
                refine tk (i := 5) ?_
                (try simp only [Act.put, g4, g5, g6])
                refine tk (i := 6) ?_
                (try simp only [Act.put, g4, g5, g6])
                refine tk (i := 7) ?_
                (try simp only [Act.put, g4, g5, g6])
                refine tk (i := 8) ?_
                (try simp only [Act.put, g4, g5, g6])
                refine tk (i := 9) ?_
                (try simp only [Act.put, g4, g5, g6])
                refine tk (i := 10) ?_
                (try simp only [Act.put, g4, g5, g6])
                refine wpAnyH_done (by kernel_rfl) ?_ _
                go_wp2
                refine bodyPost_ret (v := .bool (decide (ex3 ≤ high))) (by simp [results, Tryz.results142, go_sem]) rfl ?_
                exact ⟨⟨_, rfl⟩, h3, l3, ex3, mo, V3.out.1, V3.out.2, EX3.out, FD24.out, HD24.out⟩
              exact AllReadyH.nil
            exact AllReadyH.nil
          exact AllReadyH.nil
        refine AllReadyH.cons (o := ?ob23) ?hb23 (fun K hK => ?sb23) ?mb23
        case hb23 => simp only [g1, g2, g3]; rfl
        case sb23 =>
          have c2 : Wd19.cell? ⟨g, 2, none⟩ = some (.int .i64 ex) := (blk_cell FD19.out 2).trans rfl
          go_simp
          clear c2
          refine hK.out _ _ (trivial) (fun hHeld2 => ?_)
          clear hK K hHeld
          have hHeld := hHeld2
          clear hHeld2
          (try simp only [Act.put, g4, g5, g6])
          refine tk (i := 15) ?_
          (try simp only [Act.put, g4, g5, g6])
          refine wpAnyH_ready (rs := [8]) (by kernel_rfl) (by simp) ?_
          refine AllReadyH.cons (o := ?ob24) ?hb24 (fun K hK => ?sb24) ?mb24
          case hb24 => simp only [g1, g2, g3]; rfl
          case sb24 =>
            go_simp
            refine (Left_calls hi lo up _ u1 u2 UP.out.1 UP.out.2).mono ?_
            rintro e w_25 ⟨h3, l3, rfl, v1, v2, hb⟩
            have F_26 := Aside0.mk ((hb.block _ (blk_lt FD19.out)).trans FD19.out)
            have H_26 := Aside0.mk (og_below HD19.out hb)
            have V3 := Aside0.mk (And.intro v1 v2)
            clear hb v1 v2
            refine hK.out _ _ (trivial) (fun hHeld2 => ?_)
            clear hK K hHeld
            have hHeld := hHeld2
            clear hHeld2
            (try simp only [Act.put, g4, g5, g6])
            refine tk (i := 16) ?_
            (try simp only [Act.put, g4, g5, g6])
            refine tk (i := 17) ?_
            (try simp only [Act.put, g4, g5, g6])
            refine tk (i := 18) ?_
            (try simp only [Act.put, g4, g5, g6])
            refine wpAnyH_ready (rs := [19]) (by kernel_rfl) (by simp) ?_
            refine AllReadyH.cons (o := ?ob25) ?hb25 (fun K hK => ?sb25) ?mb25
            case hb25 => simp only [g1, g2, g3]; rfl
            case sb25 =>
              have c0 : w_25.cell? ⟨g, 0, none⟩ = some (.int .u64 hi) := (blk_cell F_26.out 0).trans rfl
              have z0 : w_25.frozen? ⟨g, 0, none⟩ = false := blk_frozen F_26.out 0
              have c1 : w_25.cell? ⟨g, 1, none⟩ = some (.int .u64 lo) := (blk_cell F_26.out 1).trans rfl
              have z1 : w_25.frozen? ⟨g, 1, none⟩ = false := blk_frozen F_26.out 1
              go_simp
              clear c0 c1 z0 z1
              have FS27 : ((w_25.setCell ⟨g, 0, none⟩ (.int .u64 h3)).setCell ⟨g, 1, none⟩ (.int .u64 l3)).heap[g]? = some (TB h3 l3 ex mo wd f low high neg) := by have P := blk_set (blk_set F_26.out 0 (.int .u64 h3)) 1 (.int .u64 l3); simpa using P
              have HS27 := og_set (og_set H_26.out 0 (.int .u64 h3)) 1 (.int .u64 l3)
              obtain ⟨WS27, hWS27⟩ : ∃ V, V = (w_25.setCell ⟨g, 0, none⟩ (.int .u64 h3)).setCell ⟨g, 1, none⟩ (.int .u64 l3) := ⟨_, rfl⟩
              rw [← hWS27] at FS27 HS27
              rw [← hWS27]
              clear hWS27
              have GS27 := Aside0.mk FS27
              have KS27 := Aside0.mk HS27
              clear FS27 HS27
              refine hK.out _ _ (trivial) (fun hHeld2 => ?_)
              clear hK K hHeld
              have hHeld := hHeld2
              clear hHeld2
              (try simp only [Act.put, g4, g5, g6])
              refine tk (i := 20) ?_
              (try simp only [Act.put, g4, g5, g6])
              refine tk (i := 21) ?_
              (try simp only [Act.put, g4, g5, g6])
              refine tk (i := 22) ?_
              (try simp only [Act.put, g4, g5, g6])
              refine wpAnyH_ready (rs := [23]) (by kernel_rfl) (by simp) ?_
              refine AllReadyH.cons (o := ?ob26) ?hb26 (fun K hK => ?sb26) ?mb26
              case hb26 => simp only [g1, g2, g3]; rfl
              case sb26 =>
                have c2 : WS27.cell? ⟨g, 2, none⟩ = some (.int .i64 ex) := (blk_cell GS27.out 2).trans rfl
                have z2 : WS27.frozen? ⟨g, 2, none⟩ = false := blk_frozen GS27.out 2
                go_simp
                clear c2 z2
                have FS28 : (WS27.setCell ⟨g, 2, none⟩ (.int .i64 ex3)).heap[g]? = some (TB h3 l3 ex3 mo wd f low high neg) := by have P := blk_set GS27.out 2 (.int .i64 ex3); simpa using P
                have HS28 := og_set KS27.out 2 (.int .i64 ex3)
                obtain ⟨WS28, hWS28⟩ : ∃ V, V = WS27.setCell ⟨g, 2, none⟩ (.int .i64 ex3) := ⟨_, rfl⟩
                rw [← hWS28] at FS28 HS28
                rw [← hWS28]
                clear hWS28
                have GS28 := Aside0.mk FS28
                have KS28 := Aside0.mk HS28
                clear FS28 HS28
                refine hK.out _ _ (trivial) (fun hHeld2 => ?_)
                clear hK K hHeld
                have hHeld := hHeld2
                clear hHeld2
                (try simp only [Act.put, g4, g5, g6])
                refine wpAnyH_done (by kernel_rfl) ?_ _
                go_wp2
                have FD29 := Aside0.mk (show WS28.drew.heap[g]? = _ from GS28.out)
                have HD29 := Aside0.mk (og_drew KS28.out)
                refine wp_region_held_drew (S := fun W => W.cell? ⟨g, 2, none⟩ = some (.int .i64 ex3) ∧ W.cell? ⟨g, 7, none⟩ = some (.int .i64 high)) (by kernel_rfl) (⟨(blk_cell FD29.out 2).trans rfl, (blk_cell FD29.out 7).trans rfl⟩) (fun hHeld => ?_)
                generalize WS28.drew = Wd29 at *
                refine tk (i := 0) ?_
                (try simp only [Act.put, g4, g5, g6])
                refine tk (i := 1) ?_
                (try simp only [Act.put, g4, g5, g6])
                refine tk (i := 2) ?_
                (try simp only [Act.put, g4, g5, g6])
                refine tk (i := 3) ?_
                (try simp only [Act.put, g4, g5, g6])
                refine tk (i := 4) ?_
                (try simp only [Act.put, g4, g5, g6])
                refine tk (i := 5) ?_
                (try simp only [Act.put, g4, g5, g6])
                refine tk (i := 6) ?_
                (try simp only [Act.put, g4, g5, g6])
                refine tk (i := 7) ?_
                (try simp only [Act.put, g4, g5, g6])
                refine tk (i := 8) ?_
                (try simp only [Act.put, g4, g5, g6])
                refine tk (i := 9) ?_
                (try simp only [Act.put, g4, g5, g6])
                refine tk (i := 10) ?_
                (try simp only [Act.put, g4, g5, g6])
                refine wpAnyH_done (by kernel_rfl) ?_ _
                go_wp2
                refine bodyPost_ret (v := .bool (decide (ex3 ≤ high))) (by simp [results, Tryz.results142, go_sem]) rfl ?_
                exact ⟨⟨_, rfl⟩, h3, l3, ex3, mo, V3.out.1, V3.out.2, EX3.out, FD29.out, HD29.out⟩
              exact AllReadyH.nil
            exact AllReadyH.nil
          exact AllReadyH.nil
        exact AllReadyH.nil
      refine AllReadyH.cons (o := ?ob27) ?hb27 (fun K hK => ?sb27) ?mb27
      case hb27 => simp only [g1, g2, g3]; rfl
      case sb27 =>
        have c2 : Wd19.cell? ⟨g, 2, none⟩ = some (.int .i64 ex) := (blk_cell FD19.out 2).trans rfl
        go_simp
        clear c2
        refine hK.out _ _ (trivial) (fun hHeld2 => ?_)
        clear hK K hHeld
        have hHeld := hHeld2
        clear hHeld2
        (try simp only [Act.put, g4, g5, g6])
        refine tk (i := 15) ?_
        (try simp only [Act.put, g4, g5, g6])
        refine wpAnyH_ready (rs := [6]) (by kernel_rfl) (by simp) ?_
        refine AllReadyH.cons (o := ?ob28) ?hb28 (fun K hK => ?sb28) ?mb28
        case hb28 => simp only [g1, g2, g3]; rfl
        case sb28 =>
          have c0 : Wd19.cell? ⟨g, 0, none⟩ = some (.int .u64 hi) := (blk_cell FD19.out 0).trans rfl
          have c1 : Wd19.cell? ⟨g, 1, none⟩ = some (.int .u64 lo) := (blk_cell FD19.out 1).trans rfl
          go_simp
          clear c0 c1
          refine hK.out _ _ (trivial) (fun hHeld2 => ?_)
          clear hK K hHeld
          have hHeld := hHeld2
          clear hHeld2
          (try simp only [Act.put, g4, g5, g6])
          refine wpAnyH_ready (rs := [8]) (by kernel_rfl) (by simp) ?_
          refine AllReadyH.cons (o := ?ob29) ?hb29 (fun K hK => ?sb29) ?mb29
          case hb29 => simp only [g1, g2, g3]; rfl
          case sb29 =>
            go_simp
            refine (Left_calls hi lo up _ u1 u2 UP.out.1 UP.out.2).mono ?_
            rintro e w_30 ⟨h3, l3, rfl, v1, v2, hb⟩
            have F_31 := Aside0.mk ((hb.block _ (blk_lt FD19.out)).trans FD19.out)
            have H_31 := Aside0.mk (og_below HD19.out hb)
            have V3 := Aside0.mk (And.intro v1 v2)
            clear hb v1 v2
            refine hK.out _ _ (trivial) (fun hHeld2 => ?_)
            clear hK K hHeld
            have hHeld := hHeld2
            clear hHeld2
            (try simp only [Act.put, g4, g5, g6])
            refine tk (i := 16) ?_
            (try simp only [Act.put, g4, g5, g6])
            refine tk (i := 17) ?_
            (try simp only [Act.put, g4, g5, g6])
            refine tk (i := 18) ?_
            (try simp only [Act.put, g4, g5, g6])
            refine wpAnyH_ready (rs := [19]) (by kernel_rfl) (by simp) ?_
            refine AllReadyH.cons (o := ?ob30) ?hb30 (fun K hK => ?sb30) ?mb30
            case hb30 => simp only [g1, g2, g3]; rfl
            case sb30 =>
              have c0 : w_30.cell? ⟨g, 0, none⟩ = some (.int .u64 hi) := (blk_cell F_31.out 0).trans rfl
              have z0 : w_30.frozen? ⟨g, 0, none⟩ = false := blk_frozen F_31.out 0
              have c1 : w_30.cell? ⟨g, 1, none⟩ = some (.int .u64 lo) := (blk_cell F_31.out 1).trans rfl
              have z1 : w_30.frozen? ⟨g, 1, none⟩ = false := blk_frozen F_31.out 1
              go_simp
              clear c0 c1 z0 z1
              have FS32 : ((w_30.setCell ⟨g, 0, none⟩ (.int .u64 h3)).setCell ⟨g, 1, none⟩ (.int .u64 l3)).heap[g]? = some (TB h3 l3 ex mo wd f low high neg) := by have P := blk_set (blk_set F_31.out 0 (.int .u64 h3)) 1 (.int .u64 l3); simpa using P
              have HS32 := og_set (og_set H_31.out 0 (.int .u64 h3)) 1 (.int .u64 l3)
              obtain ⟨WS32, hWS32⟩ : ∃ V, V = (w_30.setCell ⟨g, 0, none⟩ (.int .u64 h3)).setCell ⟨g, 1, none⟩ (.int .u64 l3) := ⟨_, rfl⟩
              rw [← hWS32] at FS32 HS32
              rw [← hWS32]
              clear hWS32
              have GS32 := Aside0.mk FS32
              have KS32 := Aside0.mk HS32
              clear FS32 HS32
              refine hK.out _ _ (trivial) (fun hHeld2 => ?_)
              clear hK K hHeld
              have hHeld := hHeld2
              clear hHeld2
              (try simp only [Act.put, g4, g5, g6])
              refine tk (i := 20) ?_
              (try simp only [Act.put, g4, g5, g6])
              refine tk (i := 21) ?_
              (try simp only [Act.put, g4, g5, g6])
              refine tk (i := 22) ?_
              (try simp only [Act.put, g4, g5, g6])
              refine wpAnyH_ready (rs := [23]) (by kernel_rfl) (by simp) ?_
              refine AllReadyH.cons (o := ?ob31) ?hb31 (fun K hK => ?sb31) ?mb31
              case hb31 => simp only [g1, g2, g3]; rfl
              case sb31 =>
                have c2 : WS32.cell? ⟨g, 2, none⟩ = some (.int .i64 ex) := (blk_cell GS32.out 2).trans rfl
                have z2 : WS32.frozen? ⟨g, 2, none⟩ = false := blk_frozen GS32.out 2
                go_simp
                clear c2 z2
                have FS33 : (WS32.setCell ⟨g, 2, none⟩ (.int .i64 ex3)).heap[g]? = some (TB h3 l3 ex3 mo wd f low high neg) := by have P := blk_set GS32.out 2 (.int .i64 ex3); simpa using P
                have HS33 := og_set KS32.out 2 (.int .i64 ex3)
                obtain ⟨WS33, hWS33⟩ : ∃ V, V = WS32.setCell ⟨g, 2, none⟩ (.int .i64 ex3) := ⟨_, rfl⟩
                rw [← hWS33] at FS33 HS33
                rw [← hWS33]
                clear hWS33
                have GS33 := Aside0.mk FS33
                have KS33 := Aside0.mk HS33
                clear FS33 HS33
                refine hK.out _ _ (trivial) (fun hHeld2 => ?_)
                clear hK K hHeld
                have hHeld := hHeld2
                clear hHeld2
                (try simp only [Act.put, g4, g5, g6])
                refine wpAnyH_done (by kernel_rfl) ?_ _
                go_wp2
                have FD34 := Aside0.mk (show WS33.drew.heap[g]? = _ from GS33.out)
                have HD34 := Aside0.mk (og_drew KS33.out)
                refine wp_region_held_drew (S := fun W => W.cell? ⟨g, 2, none⟩ = some (.int .i64 ex3) ∧ W.cell? ⟨g, 7, none⟩ = some (.int .i64 high)) (by kernel_rfl) (⟨(blk_cell FD34.out 2).trans rfl, (blk_cell FD34.out 7).trans rfl⟩) (fun hHeld => ?_)
                generalize WS33.drew = Wd34 at *
                refine tk (i := 0) ?_
                (try simp only [Act.put, g4, g5, g6])
                refine tk (i := 1) ?_
                (try simp only [Act.put, g4, g5, g6])
                refine tk (i := 2) ?_
                (try simp only [Act.put, g4, g5, g6])
                refine tk (i := 3) ?_
                (try simp only [Act.put, g4, g5, g6])
                refine tk (i := 4) ?_
                (try simp only [Act.put, g4, g5, g6])
                refine tk (i := 5) ?_
                (try simp only [Act.put, g4, g5, g6])
                refine tk (i := 6) ?_
                (try simp only [Act.put, g4, g5, g6])
                refine tk (i := 7) ?_
                (try simp only [Act.put, g4, g5, g6])
                refine tk (i := 8) ?_
                (try simp only [Act.put, g4, g5, g6])
                refine tk (i := 9) ?_
                (try simp only [Act.put, g4, g5, g6])
                refine tk (i := 10) ?_
                (try simp only [Act.put, g4, g5, g6])
                refine wpAnyH_done (by kernel_rfl) ?_ _
                go_wp2
                refine bodyPost_ret (v := .bool (decide (ex3 ≤ high))) (by simp [results, Tryz.results142, go_sem]) rfl ?_
                exact ⟨⟨_, rfl⟩, h3, l3, ex3, mo, V3.out.1, V3.out.2, EX3.out, FD34.out, HD34.out⟩
              exact AllReadyH.nil
            exact AllReadyH.nil
          exact AllReadyH.nil
        exact AllReadyH.nil
      exact AllReadyH.nil
    · have d1 : decide (up > 0) = false := decide_eq_false hu
      clear hu
      go_wp2
      have FD35 := Aside0.mk (show w_17.drew.heap[g]? = _ from F_18.out)
      have HD35 := Aside0.mk (og_drew H_18.out)
      refine wp_region_held_drew (S := fun W => W.cell? ⟨g, 2, none⟩ = some (.int .i64 ex) ∧ W.cell? ⟨g, 7, none⟩ = some (.int .i64 high)) (by kernel_rfl) (⟨(blk_cell FD35.out 2).trans rfl, (blk_cell FD35.out 7).trans rfl⟩) (fun hHeld => ?_)
      generalize w_17.drew = Wd35 at *
      refine tk (i := 0) ?_
      (try simp only [Act.put, g4, g5, g6])
      refine tk (i := 1) ?_
      (try simp only [Act.put, g4, g5, g6])
      refine tk (i := 2) ?_
      (try simp only [Act.put, g4, g5, g6])
      refine tk (i := 3) ?_
      (try simp only [Act.put, g4, g5, g6])
      refine tk (i := 4) ?_
      (try simp only [Act.put, g4, g5, g6])
      refine tk (i := 5) ?_
      (try simp only [Act.put, g4, g5, g6])
      refine tk (i := 6) ?_
      (try simp only [Act.put, g4, g5, g6])
      refine tk (i := 7) ?_
      (try simp only [Act.put, g4, g5, g6])
      refine tk (i := 8) ?_
      (try simp only [Act.put, g4, g5, g6])
      refine tk (i := 9) ?_
      (try simp only [Act.put, g4, g5, g6])
      refine tk (i := 10) ?_
      (try simp only [Act.put, g4, g5, g6])
      refine wpAnyH_done (by kernel_rfl) ?_ _
      go_wp2
      refine bodyPost_ret (v := .bool (decide (ex ≤ high))) (by simp [results, Tryz.results142, go_sem]) rfl ?_
      exact ⟨⟨_, rfl⟩, hi, lo, ex, mo, u1, u2, I1.out, FD35.out, HD35.out⟩
  exact AllReadyH.nil
end Go.Proofs.YticonaahlplbjaaGreatDoor.Tn
