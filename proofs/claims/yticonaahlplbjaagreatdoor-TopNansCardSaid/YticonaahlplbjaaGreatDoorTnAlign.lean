/- sum.align. -/
import Derived.Test.YticonaahlplbjaaGreatDoorTnFl
namespace Go.Proofs.YticonaahlplbjaaGreatDoor.Tn
open Go.RowKit Go.Proofs.YticonaahlplbjaaGreatDoor.PTopNans Go.Proofs.YticonaahlplbjaaGreatDoorW.PrintWords Go.Proofs.YticonaahlplbjaaGreatDoorW.PrintLast Go.Proofs.YticonaahlplbjaaGreatDoorW.PrintMore
set_option linter.unusedVariables false
set_option linter.unusedSimpArgs false
theorem i64_min {x y : Int} (h : i64r x) (k : i64r y) : i64r (min x y) := by unfold i64r at *; omega
/-- Two aligned numbers come back. -/
def AlP (w : World) (e : Ending) (w' : World) : Prop := ∃ ah al bh bl ex lost, e = .returned (.agg #[.int .u64 ah, .int .u64 al, .int .u64 bh, .int .u64 bl, .int .i64 ex, .bool lost]) ∧ u64 ah ∧ u64 al ∧ u64 bh ∧ u64 bl ∧ i64r ex ∧ Below w.heap.size w w'
set_option maxRecDepth 100000 in
set_option maxHeartbeats 4000000 in
theorem align_calls (n1 n2 : Bool) (k1 k2 x1 x2 s1 s2 : Int) (w : World) (u1 : u64 s1) (u2 : u64 s2) : Calls Tryz.prog 145 #[.agg #[.bool n1, .int .i64 k1, .int .i64 x1, .int .u64 s1], .agg #[.bool n2, .int .i64 k2, .int .i64 x2, .int .u64 s2]] w (AlP w) := by
  have q1 := heap_alloc_new w (.cells #[.bool n1, .int .i64 k1, .int .i64 x1, .int .u64 s1] 46)
  have q2 := heap_alloc_new (w.alloc (.cells #[.bool n1, .int .i64 k1, .int .i64 x1, .int .u64 s1] 46)) (.cells #[.bool n2, .int .i64 k2, .int .i64 x2, .int .u64 s2] 46)
  have q3 := heap_alloc_new ((w.alloc (.cells #[.bool n1, .int .i64 k1, .int .i64 x1, .int .u64 s1] 46)).alloc (.cells #[.bool n2, .int .i64 k2, .int .i64 x2, .int .u64 s2] 46)) (.cells #[.int .u64 0, .int .u64 0, .int .u64 0, .int .u64 0, .int .i64 0, .bool false] 127)
  have q1 := (heap_alloc_old (.cells #[.int .u64 0, .int .u64 0, .int .u64 0, .int .u64 0, .int .i64 0, .bool false] 127) (blk_lt ((heap_alloc_old (.cells #[.bool n2, .int .i64 k2, .int .i64 x2, .int .u64 s2] 46) (blk_lt q1)).trans q1))).trans ((heap_alloc_old (.cells #[.bool n2, .int .i64 k2, .int .i64 x2, .int .u64 s2] 46) (blk_lt q1)).trans q1)
  have q2 := (heap_alloc_old (.cells #[.int .u64 0, .int .u64 0, .int .u64 0, .int .u64 0, .int .i64 0, .bool false] 127) (blk_lt q2)).trans q2
  have qb := ((below_alloc (Below.refl w.heap.size w) (.cells #[.bool n1, .int .i64 k1, .int .i64 x1, .int .u64 s1] 46)).alloc (by rw [World.size_alloc]; omega) (.cells #[.bool n2, .int .i64 k2, .int .i64 x2, .int .u64 s2] 46)).alloc (by rw [World.size_alloc, World.size_alloc]; omega) (.cells #[.int .u64 0, .int .u64 0, .int .u64 0, .int .u64 0, .int .i64 0, .bool false] 127)
  rw [World.size_alloc] at q2
  rw [World.size_alloc, World.size_alloc] at q3
  obtain ⟨W0, hW0⟩ : ∃ W0, W0 = ((w.alloc (.cells #[.bool n1, .int .i64 k1, .int .i64 x1, .int .u64 s1] 46)).alloc (.cells #[.bool n2, .int .i64 k2, .int .i64 x2, .int .u64 s2] 46)).alloc (.cells #[.int .u64 0, .int .u64 0, .int .u64 0, .int .u64 0, .int .i64 0, .bool false] 127) := ⟨_, rfl⟩
  rw [← hW0] at q1 q2 q3 qb
  have F01 := Aside0.mk (show W0.drew.heap[w.heap.size]? = _ from q1)
  have F02 := Aside0.mk (show W0.drew.heap[w.heap.size + 1]? = _ from q2)
  have F03 := Aside0.mk (show W0.drew.heap[w.heap.size + 1 + 1]? = _ from q3)
  have HB0d := Aside0.mk (below_drew qb)
  have UU := Aside0.mk (And.intro u1 u2)
  clear q1 q2 q3 qb u1 u2
  have hW := Aside0.mk hW0
  clear hW0
  obtain ⟨far, wf, hf⟩ := i64_at (x1 - x2)
  obtain ⟨up, hup⟩ : ∃ u, min far 64 = u := ⟨_, rfl⟩
  have UP := Aside0.mk (show i64r up by rw [← hup]; exact i64_min hf (by unfold i64r; decide))
  obtain ⟨ex, wx, hx⟩ := i64_at (x1 - up)
  obtain ⟨dn, wd, hd⟩ := i64_at (far - up)
  have EX := Aside0.mk hx
  have DN := Aside0.mk hd
  clear hf hx hd
  go_enter Tryz.func145, Tryz.ntmps145
  go_wp2
  rw [← hW.out]
  clear hW
  go_cut [7] from 8 (fun s7 wc => ∃ (p : Nat) (ah al : Int), s7 = .pointer (some ⟨p, 0, none⟩) ∧ w.heap.size + 1 + 1 < p ∧ u64 ah ∧ u64 al ∧ wc.heap[w.heap.size + 1]? = some (.cells #[.bool n2, .int .i64 k2, .int .i64 x2, .int .u64 s2] 46 (0, 0)) ∧ wc.heap[w.heap.size + 1 + 1]? = some (.cells #[.int .u64 0, .int .u64 0, .int .u64 0, .int .u64 0, .int .i64 0, .bool false] 127 (0, 0)) ∧ wc.heap[p]? = some (.cells #[.int .u64 ah, .int .u64 al, .int .u64 0, .int .u64 0, .int .i64 ex, .bool false] 127 (0, 0)) ∧ Below w.heap.size w wc)
  case first =>
    refine wp_region_held_drew (S := fun W => W.cell? ⟨w.heap.size, 2, none⟩ = some (.int .i64 x1) ∧ W.cell? ⟨w.heap.size, 3, none⟩ = some (.int .u64 s1)) (by kernel_rfl) (⟨(blk_cell F01.out 2).trans rfl, (blk_cell F01.out 3).trans rfl⟩) (fun hHeld => ?_)
    generalize W0.drew = Wd at *
    refine tk (i := 0) ?_
    (try simp only [Act.put, g4, g5, g6])
    refine tk (i := 1) ?_
    (try simp only [Act.put, g4, g5, g6])
    refine tk (i := 3) ?_
    (try simp only [Act.put, g4, g5, g6])
    refine tk (i := 5) ?_
    (try simp only [Act.put, g4, g5, g6])
    refine tk (i := 6) ?_
    (try simp only [Act.put, g4, g5, g6])
    refine tk (i := 7) ?_
    (try simp only [Act.put, g4, g5, g6])
    refine tk (i := 8) ?_
    (try simp only [Act.put, g4, g5, g6])
    refine wpAnyH_ready (rs := [2, 10]) (by kernel_rfl) (by simp) ?_
    refine AllReadyH.cons (o := ?ob1) ?hb1 (fun K hK => ?sb1) ?mb1
    case hb1 => simp only [g1, g2, g3]; rfl
    case sb1 =>
      go_simp
      refine (Of_calls s1 _).mono ?_
      rintro e w1 ⟨rfl, hb⟩
      have F2 := Aside0.mk ((hb.block _ (blk_lt F01.out)).trans F01.out)
      have F3 := Aside0.mk ((hb.block _ (blk_lt F02.out)).trans F02.out)
      have F4 := Aside0.mk ((hb.block _ (blk_lt F03.out)).trans F03.out)
      have HB5 := Aside0.mk (below_then HB0d.out HB0d.out.size hb)
      clear hb
      refine hK.out _ _ (⟨(blk_cell F2.out 2).trans rfl, (blk_cell F2.out 3).trans rfl⟩) (fun hHeld2 => ?_)
      clear hK K hHeld
      have hHeld := hHeld2
      clear hHeld2
      (try simp only [Act.put, g4, g5, g6])
      refine wpAnyH_ready (rs := [4, 10]) (by kernel_rfl) (by simp) ?_
      refine AllReadyH.cons (o := ?ob2) ?hb2 (fun K hK => ?sb2) ?mb2
      case hb2 => simp only [g1, g2, g3]; rfl
      case sb2 =>
        go_simp
        refine (Left_calls 0 s1 up _ u64_0 UU.out.1 UP.out.1 UP.out.2).mono ?_
        rintro e w6 ⟨ah, al, rfl, v1, v2, hb⟩
        have F7 := Aside0.mk ((hb.block _ (blk_lt F2.out)).trans F2.out)
        have F8 := Aside0.mk ((hb.block _ (blk_lt F3.out)).trans F3.out)
        have F9 := Aside0.mk ((hb.block _ (blk_lt F4.out)).trans F4.out)
        have HB10 := Aside0.mk (below_then HB5.out HB5.out.size hb)
        have VV := Aside0.mk (And.intro v1 v2)
        clear hb v1 v2
        refine hK.out _ _ (⟨(blk_cell F7.out 2).trans rfl, (blk_cell F7.out 3).trans rfl⟩) (fun hHeld2 => ?_)
        clear hK K hHeld
        have hHeld := hHeld2
        clear hHeld2
        (try simp only [Act.put, g4, g5, g6])
        refine tk (i := 9) ?_
        (try simp only [Act.put, g4, g5, g6])
        refine wpAnyH_ready (rs := [10]) (by kernel_rfl) (by simp) ?_
        refine AllReadyH.cons (o := ?ob3) ?hb3 (fun K hK => ?sb3) ?mb3
        case hb3 => simp only [g1, g2, g3]; rfl
        case sb3 =>
          go_simp
          have F13' := (heap_alloc_old (.cells #[.int .u64 0, .int .u64 0, .int .u64 0, .int .u64 0, .int .i64 0, .bool false] 127) (blk_lt F7.out)).trans F7.out
          have F14' := (heap_alloc_old (.cells #[.int .u64 0, .int .u64 0, .int .u64 0, .int .u64 0, .int .i64 0, .bool false] 127) (blk_lt F8.out)).trans F8.out
          have F15' := (heap_alloc_old (.cells #[.int .u64 0, .int .u64 0, .int .u64 0, .int .u64 0, .int .i64 0, .bool false] 127) (blk_lt F9.out)).trans F9.out
          have F16' := heap_alloc_new w6 (.cells #[.int .u64 0, .int .u64 0, .int .u64 0, .int .u64 0, .int .i64 0, .bool false] 127)
          have HB17' := HB10.out.alloc HB10.out.size (.cells #[.int .u64 0, .int .u64 0, .int .u64 0, .int .u64 0, .int .i64 0, .bool false] 127)
          obtain ⟨V11, hV11⟩ : ∃ V, V = w6.alloc (.cells #[.int .u64 0, .int .u64 0, .int .u64 0, .int .u64 0, .int .i64 0, .bool false] 127) := ⟨_, rfl⟩
          have Gp12 := Aside0.mk (show w.heap.size ≤ w6.heap.size from HB10.out.size)
          have Lp12_a := Aside0.mk (blk_lt F7.out)
          have Lp12_b := Aside0.mk (blk_lt F8.out)
          have Lp12_c := Aside0.mk (blk_lt F9.out)
          obtain ⟨p12, hp12⟩ : ∃ p, p = w6.heap.size := ⟨_, rfl⟩
          rw [← hp12, ← hV11]
          rw [← hp12, ← hV11] at F16'
          rw [← hp12] at Gp12 Lp12_a Lp12_b Lp12_c
          rw [← hV11] at F13'
          have F13 := Aside0.mk F13'
          rw [← hV11] at F14'
          have F14 := Aside0.mk F14'
          rw [← hV11] at F15'
          have F15 := Aside0.mk F15'
          have F16 := Aside0.mk F16'
          rw [← hV11] at HB17'
          have HB17 := Aside0.mk HB17'
          clear hV11 hp12 F13' F14' F15' F16' HB17'
          refine hK.out _ _ (⟨(blk_cell F13.out 2).trans rfl, (blk_cell F13.out 3).trans rfl⟩) (fun hHeld2 => ?_)
          clear hK K hHeld
          have hHeld := hHeld2
          clear hHeld2
          (try simp only [Act.put, g4, g5, g6])
          refine wpAnyH_ready (rs := [11]) (by kernel_rfl) (by simp) ?_
          refine AllReadyH.cons (o := ?ob4) ?hb4 (fun K hK => ?sb4) ?mb4
          case hb4 => simp only [g1, g2, g3]; rfl
          case sb4 =>
            have y0 := (blk_cell F16.out 0).trans rfl
            have fz0 := blk_frozen F16.out 0
            have y1 := (blk_cell F16.out 1).trans rfl
            have fz1 := blk_frozen F16.out 1
            have y2 := (blk_cell F16.out 2).trans rfl
            have fz2 := blk_frozen F16.out 2
            have y3 := (blk_cell F16.out 3).trans rfl
            have fz3 := blk_frozen F16.out 3
            have y4 := (blk_cell F16.out 4).trans rfl
            have fz4 := blk_frozen F16.out 4
            have y5 := (blk_cell F16.out 5).trans rfl
            have fz5 := blk_frozen F16.out 5
            go_simp
            clear y0 fz0 y1 fz1 y2 fz2 y3 fz3 y4 fz4 y5 fz5
            have F19' := (blk_far (blk_far (blk_far (blk_far (blk_far (blk_far F13.out (p := ⟨p12, 0, none⟩) (by have := Lp12_a.out; show _ ≠ p12; omega) (.int .u64 ah)) (p := ⟨p12, 1, none⟩) (by have := Lp12_a.out; show _ ≠ p12; omega) (.int .u64 al)) (p := ⟨p12, 2, none⟩) (by have := Lp12_a.out; show _ ≠ p12; omega) (.int .u64 0)) (p := ⟨p12, 3, none⟩) (by have := Lp12_a.out; show _ ≠ p12; omega) (.int .u64 0)) (p := ⟨p12, 4, none⟩) (by have := Lp12_a.out; show _ ≠ p12; omega) (.int .i64 ex)) (p := ⟨p12, 5, none⟩) (by have := Lp12_a.out; show _ ≠ p12; omega) (.bool false))
            have F20' := (blk_far (blk_far (blk_far (blk_far (blk_far (blk_far F14.out (p := ⟨p12, 0, none⟩) (by have := Lp12_b.out; show _ ≠ p12; omega) (.int .u64 ah)) (p := ⟨p12, 1, none⟩) (by have := Lp12_b.out; show _ ≠ p12; omega) (.int .u64 al)) (p := ⟨p12, 2, none⟩) (by have := Lp12_b.out; show _ ≠ p12; omega) (.int .u64 0)) (p := ⟨p12, 3, none⟩) (by have := Lp12_b.out; show _ ≠ p12; omega) (.int .u64 0)) (p := ⟨p12, 4, none⟩) (by have := Lp12_b.out; show _ ≠ p12; omega) (.int .i64 ex)) (p := ⟨p12, 5, none⟩) (by have := Lp12_b.out; show _ ≠ p12; omega) (.bool false))
            have F21' := (blk_far (blk_far (blk_far (blk_far (blk_far (blk_far F15.out (p := ⟨p12, 0, none⟩) (by have := Lp12_c.out; show _ ≠ p12; omega) (.int .u64 ah)) (p := ⟨p12, 1, none⟩) (by have := Lp12_c.out; show _ ≠ p12; omega) (.int .u64 al)) (p := ⟨p12, 2, none⟩) (by have := Lp12_c.out; show _ ≠ p12; omega) (.int .u64 0)) (p := ⟨p12, 3, none⟩) (by have := Lp12_c.out; show _ ≠ p12; omega) (.int .u64 0)) (p := ⟨p12, 4, none⟩) (by have := Lp12_c.out; show _ ≠ p12; omega) (.int .i64 ex)) (p := ⟨p12, 5, none⟩) (by have := Lp12_c.out; show _ ≠ p12; omega) (.bool false))
            have F22' : ((((((V11.setCell ⟨p12, 0, none⟩ (.int .u64 ah)).setCell ⟨p12, 1, none⟩ (.int .u64 al)).setCell ⟨p12, 2, none⟩ (.int .u64 0)).setCell ⟨p12, 3, none⟩ (.int .u64 0)).setCell ⟨p12, 4, none⟩ (.int .i64 ex)).setCell ⟨p12, 5, none⟩ (.bool false)).heap[p12]? = some (.cells #[.int .u64 ah, .int .u64 al, .int .u64 0, .int .u64 0, .int .i64 ex, .bool false] 127 (0, 0)) := by have P := (blk_set (blk_set (blk_set (blk_set (blk_set (blk_set F16.out 0 (.int .u64 ah)) 1 (.int .u64 al)) 2 (.int .u64 0)) 3 (.int .u64 0)) 4 (.int .i64 ex)) 5 (.bool false)); simpa using P
            have HB23' := (bset (bset (bset (bset (bset (bset HB17.out Gp12.out 0 (.int .u64 ah)) Gp12.out 1 (.int .u64 al)) Gp12.out 2 (.int .u64 0)) Gp12.out 3 (.int .u64 0)) Gp12.out 4 (.int .i64 ex)) Gp12.out 5 (.bool false))
            obtain ⟨V18, hV18⟩ : ∃ V, V = ((((((V11.setCell ⟨p12, 0, none⟩ (.int .u64 ah)).setCell ⟨p12, 1, none⟩ (.int .u64 al)).setCell ⟨p12, 2, none⟩ (.int .u64 0)).setCell ⟨p12, 3, none⟩ (.int .u64 0)).setCell ⟨p12, 4, none⟩ (.int .i64 ex)).setCell ⟨p12, 5, none⟩ (.bool false)) := ⟨_, rfl⟩
            rw [← hV18]
            rw [← hV18] at F19'
            have F19 := Aside0.mk F19'
            clear F19'
            rw [← hV18] at F20'
            have F20 := Aside0.mk F20'
            clear F20'
            rw [← hV18] at F21'
            have F21 := Aside0.mk F21'
            clear F21'
            rw [← hV18] at F22'
            have F22 := Aside0.mk F22'
            clear F22'
            rw [← hV18] at HB23'
            have HB23 := Aside0.mk HB23'
            clear HB23'
            clear hV18
            refine hK.out _ _ (⟨(blk_cell F19.out 2).trans rfl, (blk_cell F19.out 3).trans rfl⟩) (fun hHeld2 => ?_)
            clear hK K hHeld
            have hHeld := hHeld2
            clear hHeld2
            (try simp only [Act.put, g4, g5, g6])
            refine wpAnyH_done (by kernel_rfl) ?_ _
            go_wp2
            go_meet
            case rel => exact ⟨p12, ah, al, rfl, (by have := Lp12_c.out; omega), VV.out.1, VV.out.2, F20.out, F21.out, F22.out, HB23.out⟩
          exact AllReadyH.nil
        exact AllReadyH.nil
      refine AllReadyH.cons (o := ?ob5) ?hb5 (fun K hK => ?sb5) ?mb5
      case hb5 => simp only [g1, g2, g3]; rfl
      case sb5 =>
        go_simp
        have F26' := (heap_alloc_old (.cells #[.int .u64 0, .int .u64 0, .int .u64 0, .int .u64 0, .int .i64 0, .bool false] 127) (blk_lt F2.out)).trans F2.out
        have F27' := (heap_alloc_old (.cells #[.int .u64 0, .int .u64 0, .int .u64 0, .int .u64 0, .int .i64 0, .bool false] 127) (blk_lt F3.out)).trans F3.out
        have F28' := (heap_alloc_old (.cells #[.int .u64 0, .int .u64 0, .int .u64 0, .int .u64 0, .int .i64 0, .bool false] 127) (blk_lt F4.out)).trans F4.out
        have F29' := heap_alloc_new w1 (.cells #[.int .u64 0, .int .u64 0, .int .u64 0, .int .u64 0, .int .i64 0, .bool false] 127)
        have HB30' := HB5.out.alloc HB5.out.size (.cells #[.int .u64 0, .int .u64 0, .int .u64 0, .int .u64 0, .int .i64 0, .bool false] 127)
        obtain ⟨V24, hV24⟩ : ∃ V, V = w1.alloc (.cells #[.int .u64 0, .int .u64 0, .int .u64 0, .int .u64 0, .int .i64 0, .bool false] 127) := ⟨_, rfl⟩
        have Gp25 := Aside0.mk (show w.heap.size ≤ w1.heap.size from HB5.out.size)
        have Lp25_a := Aside0.mk (blk_lt F2.out)
        have Lp25_b := Aside0.mk (blk_lt F3.out)
        have Lp25_c := Aside0.mk (blk_lt F4.out)
        obtain ⟨p25, hp25⟩ : ∃ p, p = w1.heap.size := ⟨_, rfl⟩
        rw [← hp25, ← hV24]
        rw [← hp25, ← hV24] at F29'
        rw [← hp25] at Gp25 Lp25_a Lp25_b Lp25_c
        rw [← hV24] at F26'
        have F26 := Aside0.mk F26'
        rw [← hV24] at F27'
        have F27 := Aside0.mk F27'
        rw [← hV24] at F28'
        have F28 := Aside0.mk F28'
        have F29 := Aside0.mk F29'
        rw [← hV24] at HB30'
        have HB30 := Aside0.mk HB30'
        clear hV24 hp25 F26' F27' F28' F29' HB30'
        refine hK.out _ _ (⟨(blk_cell F26.out 2).trans rfl, (blk_cell F26.out 3).trans rfl⟩) (fun hHeld2 => ?_)
        clear hK K hHeld
        have hHeld := hHeld2
        clear hHeld2
        (try simp only [Act.put, g4, g5, g6])
        refine wpAnyH_ready (rs := [4]) (by kernel_rfl) (by simp) ?_
        refine AllReadyH.cons (o := ?ob6) ?hb6 (fun K hK => ?sb6) ?mb6
        case hb6 => simp only [g1, g2, g3]; rfl
        case sb6 =>
          go_simp
          refine (Left_calls 0 s1 up _ u64_0 UU.out.1 UP.out.1 UP.out.2).mono ?_
          rintro e w31 ⟨ah, al, rfl, v1, v2, hb⟩
          have F32 := Aside0.mk ((hb.block _ (blk_lt F26.out)).trans F26.out)
          have F33 := Aside0.mk ((hb.block _ (blk_lt F27.out)).trans F27.out)
          have F34 := Aside0.mk ((hb.block _ (blk_lt F28.out)).trans F28.out)
          have F35 := Aside0.mk ((hb.block _ (blk_lt F29.out)).trans F29.out)
          have HB36 := Aside0.mk (below_then HB30.out HB30.out.size hb)
          have VV := Aside0.mk (And.intro v1 v2)
          clear hb v1 v2
          refine hK.out _ _ (⟨(blk_cell F32.out 2).trans rfl, (blk_cell F32.out 3).trans rfl⟩) (fun hHeld2 => ?_)
          clear hK K hHeld
          have hHeld := hHeld2
          clear hHeld2
          (try simp only [Act.put, g4, g5, g6])
          refine tk (i := 9) ?_
          (try simp only [Act.put, g4, g5, g6])
          refine wpAnyH_ready (rs := [11]) (by kernel_rfl) (by simp) ?_
          refine AllReadyH.cons (o := ?ob7) ?hb7 (fun K hK => ?sb7) ?mb7
          case hb7 => simp only [g1, g2, g3]; rfl
          case sb7 =>
            have y0 := (blk_cell F35.out 0).trans rfl
            have fz0 := blk_frozen F35.out 0
            have y1 := (blk_cell F35.out 1).trans rfl
            have fz1 := blk_frozen F35.out 1
            have y2 := (blk_cell F35.out 2).trans rfl
            have fz2 := blk_frozen F35.out 2
            have y3 := (blk_cell F35.out 3).trans rfl
            have fz3 := blk_frozen F35.out 3
            have y4 := (blk_cell F35.out 4).trans rfl
            have fz4 := blk_frozen F35.out 4
            have y5 := (blk_cell F35.out 5).trans rfl
            have fz5 := blk_frozen F35.out 5
            go_simp
            clear y0 fz0 y1 fz1 y2 fz2 y3 fz3 y4 fz4 y5 fz5
            have F38' := (blk_far (blk_far (blk_far (blk_far (blk_far (blk_far F32.out (p := ⟨p25, 0, none⟩) (by have := Lp25_a.out; show _ ≠ p25; omega) (.int .u64 ah)) (p := ⟨p25, 1, none⟩) (by have := Lp25_a.out; show _ ≠ p25; omega) (.int .u64 al)) (p := ⟨p25, 2, none⟩) (by have := Lp25_a.out; show _ ≠ p25; omega) (.int .u64 0)) (p := ⟨p25, 3, none⟩) (by have := Lp25_a.out; show _ ≠ p25; omega) (.int .u64 0)) (p := ⟨p25, 4, none⟩) (by have := Lp25_a.out; show _ ≠ p25; omega) (.int .i64 ex)) (p := ⟨p25, 5, none⟩) (by have := Lp25_a.out; show _ ≠ p25; omega) (.bool false))
            have F39' := (blk_far (blk_far (blk_far (blk_far (blk_far (blk_far F33.out (p := ⟨p25, 0, none⟩) (by have := Lp25_b.out; show _ ≠ p25; omega) (.int .u64 ah)) (p := ⟨p25, 1, none⟩) (by have := Lp25_b.out; show _ ≠ p25; omega) (.int .u64 al)) (p := ⟨p25, 2, none⟩) (by have := Lp25_b.out; show _ ≠ p25; omega) (.int .u64 0)) (p := ⟨p25, 3, none⟩) (by have := Lp25_b.out; show _ ≠ p25; omega) (.int .u64 0)) (p := ⟨p25, 4, none⟩) (by have := Lp25_b.out; show _ ≠ p25; omega) (.int .i64 ex)) (p := ⟨p25, 5, none⟩) (by have := Lp25_b.out; show _ ≠ p25; omega) (.bool false))
            have F40' := (blk_far (blk_far (blk_far (blk_far (blk_far (blk_far F34.out (p := ⟨p25, 0, none⟩) (by have := Lp25_c.out; show _ ≠ p25; omega) (.int .u64 ah)) (p := ⟨p25, 1, none⟩) (by have := Lp25_c.out; show _ ≠ p25; omega) (.int .u64 al)) (p := ⟨p25, 2, none⟩) (by have := Lp25_c.out; show _ ≠ p25; omega) (.int .u64 0)) (p := ⟨p25, 3, none⟩) (by have := Lp25_c.out; show _ ≠ p25; omega) (.int .u64 0)) (p := ⟨p25, 4, none⟩) (by have := Lp25_c.out; show _ ≠ p25; omega) (.int .i64 ex)) (p := ⟨p25, 5, none⟩) (by have := Lp25_c.out; show _ ≠ p25; omega) (.bool false))
            have F41' : ((((((w31.setCell ⟨p25, 0, none⟩ (.int .u64 ah)).setCell ⟨p25, 1, none⟩ (.int .u64 al)).setCell ⟨p25, 2, none⟩ (.int .u64 0)).setCell ⟨p25, 3, none⟩ (.int .u64 0)).setCell ⟨p25, 4, none⟩ (.int .i64 ex)).setCell ⟨p25, 5, none⟩ (.bool false)).heap[p25]? = some (.cells #[.int .u64 ah, .int .u64 al, .int .u64 0, .int .u64 0, .int .i64 ex, .bool false] 127 (0, 0)) := by have P := (blk_set (blk_set (blk_set (blk_set (blk_set (blk_set F35.out 0 (.int .u64 ah)) 1 (.int .u64 al)) 2 (.int .u64 0)) 3 (.int .u64 0)) 4 (.int .i64 ex)) 5 (.bool false)); simpa using P
            have HB42' := (bset (bset (bset (bset (bset (bset HB36.out Gp25.out 0 (.int .u64 ah)) Gp25.out 1 (.int .u64 al)) Gp25.out 2 (.int .u64 0)) Gp25.out 3 (.int .u64 0)) Gp25.out 4 (.int .i64 ex)) Gp25.out 5 (.bool false))
            obtain ⟨V37, hV37⟩ : ∃ V, V = ((((((w31.setCell ⟨p25, 0, none⟩ (.int .u64 ah)).setCell ⟨p25, 1, none⟩ (.int .u64 al)).setCell ⟨p25, 2, none⟩ (.int .u64 0)).setCell ⟨p25, 3, none⟩ (.int .u64 0)).setCell ⟨p25, 4, none⟩ (.int .i64 ex)).setCell ⟨p25, 5, none⟩ (.bool false)) := ⟨_, rfl⟩
            rw [← hV37]
            rw [← hV37] at F38'
            have F38 := Aside0.mk F38'
            clear F38'
            rw [← hV37] at F39'
            have F39 := Aside0.mk F39'
            clear F39'
            rw [← hV37] at F40'
            have F40 := Aside0.mk F40'
            clear F40'
            rw [← hV37] at F41'
            have F41 := Aside0.mk F41'
            clear F41'
            rw [← hV37] at HB42'
            have HB42 := Aside0.mk HB42'
            clear HB42'
            clear hV37
            refine hK.out _ _ (⟨(blk_cell F38.out 2).trans rfl, (blk_cell F38.out 3).trans rfl⟩) (fun hHeld2 => ?_)
            clear hK K hHeld
            have hHeld := hHeld2
            clear hHeld2
            (try simp only [Act.put, g4, g5, g6])
            refine wpAnyH_done (by kernel_rfl) ?_ _
            go_wp2
            go_meet
            case rel => exact ⟨p25, ah, al, rfl, (by have := Lp25_c.out; omega), VV.out.1, VV.out.2, F39.out, F40.out, F41.out, HB42.out⟩
          exact AllReadyH.nil
        exact AllReadyH.nil
      exact AllReadyH.nil
    refine AllReadyH.cons (o := ?ob8) ?hb8 (fun K hK => ?sb8) ?mb8
    case hb8 => simp only [g1, g2, g3]; rfl
    case sb8 =>
      go_simp
      have F45' := (heap_alloc_old (.cells #[.int .u64 0, .int .u64 0, .int .u64 0, .int .u64 0, .int .i64 0, .bool false] 127) (blk_lt F01.out)).trans F01.out
      have F46' := (heap_alloc_old (.cells #[.int .u64 0, .int .u64 0, .int .u64 0, .int .u64 0, .int .i64 0, .bool false] 127) (blk_lt F02.out)).trans F02.out
      have F47' := (heap_alloc_old (.cells #[.int .u64 0, .int .u64 0, .int .u64 0, .int .u64 0, .int .i64 0, .bool false] 127) (blk_lt F03.out)).trans F03.out
      have F48' := heap_alloc_new Wd (.cells #[.int .u64 0, .int .u64 0, .int .u64 0, .int .u64 0, .int .i64 0, .bool false] 127)
      have HB49' := HB0d.out.alloc HB0d.out.size (.cells #[.int .u64 0, .int .u64 0, .int .u64 0, .int .u64 0, .int .i64 0, .bool false] 127)
      obtain ⟨V43, hV43⟩ : ∃ V, V = Wd.alloc (.cells #[.int .u64 0, .int .u64 0, .int .u64 0, .int .u64 0, .int .i64 0, .bool false] 127) := ⟨_, rfl⟩
      have Gp44 := Aside0.mk (show w.heap.size ≤ Wd.heap.size from HB0d.out.size)
      have Lp44_a := Aside0.mk (blk_lt F01.out)
      have Lp44_b := Aside0.mk (blk_lt F02.out)
      have Lp44_c := Aside0.mk (blk_lt F03.out)
      obtain ⟨p44, hp44⟩ : ∃ p, p = Wd.heap.size := ⟨_, rfl⟩
      rw [← hp44, ← hV43]
      rw [← hp44, ← hV43] at F48'
      rw [← hp44] at Gp44 Lp44_a Lp44_b Lp44_c
      rw [← hV43] at F45'
      have F45 := Aside0.mk F45'
      rw [← hV43] at F46'
      have F46 := Aside0.mk F46'
      rw [← hV43] at F47'
      have F47 := Aside0.mk F47'
      have F48 := Aside0.mk F48'
      rw [← hV43] at HB49'
      have HB49 := Aside0.mk HB49'
      clear hV43 hp44 F45' F46' F47' F48' HB49'
      refine hK.out _ _ (⟨(blk_cell F45.out 2).trans rfl, (blk_cell F45.out 3).trans rfl⟩) (fun hHeld2 => ?_)
      clear hK K hHeld
      have hHeld := hHeld2
      clear hHeld2
      (try simp only [Act.put, g4, g5, g6])
      refine wpAnyH_ready (rs := [2]) (by kernel_rfl) (by simp) ?_
      refine AllReadyH.cons (o := ?ob9) ?hb9 (fun K hK => ?sb9) ?mb9
      case hb9 => simp only [g1, g2, g3]; rfl
      case sb9 =>
        go_simp
        refine (Of_calls s1 _).mono ?_
        rintro e w50 ⟨rfl, hb⟩
        have F51 := Aside0.mk ((hb.block _ (blk_lt F45.out)).trans F45.out)
        have F52 := Aside0.mk ((hb.block _ (blk_lt F46.out)).trans F46.out)
        have F53 := Aside0.mk ((hb.block _ (blk_lt F47.out)).trans F47.out)
        have F54 := Aside0.mk ((hb.block _ (blk_lt F48.out)).trans F48.out)
        have HB55 := Aside0.mk (below_then HB49.out HB49.out.size hb)
        clear hb
        refine hK.out _ _ (⟨(blk_cell F51.out 2).trans rfl, (blk_cell F51.out 3).trans rfl⟩) (fun hHeld2 => ?_)
        clear hK K hHeld
        have hHeld := hHeld2
        clear hHeld2
        (try simp only [Act.put, g4, g5, g6])
        refine wpAnyH_ready (rs := [4]) (by kernel_rfl) (by simp) ?_
        refine AllReadyH.cons (o := ?ob10) ?hb10 (fun K hK => ?sb10) ?mb10
        case hb10 => simp only [g1, g2, g3]; rfl
        case sb10 =>
          go_simp
          refine (Left_calls 0 s1 up _ u64_0 UU.out.1 UP.out.1 UP.out.2).mono ?_
          rintro e w56 ⟨ah, al, rfl, v1, v2, hb⟩
          have F57 := Aside0.mk ((hb.block _ (blk_lt F51.out)).trans F51.out)
          have F58 := Aside0.mk ((hb.block _ (blk_lt F52.out)).trans F52.out)
          have F59 := Aside0.mk ((hb.block _ (blk_lt F53.out)).trans F53.out)
          have F60 := Aside0.mk ((hb.block _ (blk_lt F54.out)).trans F54.out)
          have HB61 := Aside0.mk (below_then HB55.out HB55.out.size hb)
          have VV := Aside0.mk (And.intro v1 v2)
          clear hb v1 v2
          refine hK.out _ _ (⟨(blk_cell F57.out 2).trans rfl, (blk_cell F57.out 3).trans rfl⟩) (fun hHeld2 => ?_)
          clear hK K hHeld
          have hHeld := hHeld2
          clear hHeld2
          (try simp only [Act.put, g4, g5, g6])
          refine tk (i := 9) ?_
          (try simp only [Act.put, g4, g5, g6])
          refine wpAnyH_ready (rs := [11]) (by kernel_rfl) (by simp) ?_
          refine AllReadyH.cons (o := ?ob11) ?hb11 (fun K hK => ?sb11) ?mb11
          case hb11 => simp only [g1, g2, g3]; rfl
          case sb11 =>
            have y0 := (blk_cell F60.out 0).trans rfl
            have fz0 := blk_frozen F60.out 0
            have y1 := (blk_cell F60.out 1).trans rfl
            have fz1 := blk_frozen F60.out 1
            have y2 := (blk_cell F60.out 2).trans rfl
            have fz2 := blk_frozen F60.out 2
            have y3 := (blk_cell F60.out 3).trans rfl
            have fz3 := blk_frozen F60.out 3
            have y4 := (blk_cell F60.out 4).trans rfl
            have fz4 := blk_frozen F60.out 4
            have y5 := (blk_cell F60.out 5).trans rfl
            have fz5 := blk_frozen F60.out 5
            go_simp
            clear y0 fz0 y1 fz1 y2 fz2 y3 fz3 y4 fz4 y5 fz5
            have F63' := (blk_far (blk_far (blk_far (blk_far (blk_far (blk_far F57.out (p := ⟨p44, 0, none⟩) (by have := Lp44_a.out; show _ ≠ p44; omega) (.int .u64 ah)) (p := ⟨p44, 1, none⟩) (by have := Lp44_a.out; show _ ≠ p44; omega) (.int .u64 al)) (p := ⟨p44, 2, none⟩) (by have := Lp44_a.out; show _ ≠ p44; omega) (.int .u64 0)) (p := ⟨p44, 3, none⟩) (by have := Lp44_a.out; show _ ≠ p44; omega) (.int .u64 0)) (p := ⟨p44, 4, none⟩) (by have := Lp44_a.out; show _ ≠ p44; omega) (.int .i64 ex)) (p := ⟨p44, 5, none⟩) (by have := Lp44_a.out; show _ ≠ p44; omega) (.bool false))
            have F64' := (blk_far (blk_far (blk_far (blk_far (blk_far (blk_far F58.out (p := ⟨p44, 0, none⟩) (by have := Lp44_b.out; show _ ≠ p44; omega) (.int .u64 ah)) (p := ⟨p44, 1, none⟩) (by have := Lp44_b.out; show _ ≠ p44; omega) (.int .u64 al)) (p := ⟨p44, 2, none⟩) (by have := Lp44_b.out; show _ ≠ p44; omega) (.int .u64 0)) (p := ⟨p44, 3, none⟩) (by have := Lp44_b.out; show _ ≠ p44; omega) (.int .u64 0)) (p := ⟨p44, 4, none⟩) (by have := Lp44_b.out; show _ ≠ p44; omega) (.int .i64 ex)) (p := ⟨p44, 5, none⟩) (by have := Lp44_b.out; show _ ≠ p44; omega) (.bool false))
            have F65' := (blk_far (blk_far (blk_far (blk_far (blk_far (blk_far F59.out (p := ⟨p44, 0, none⟩) (by have := Lp44_c.out; show _ ≠ p44; omega) (.int .u64 ah)) (p := ⟨p44, 1, none⟩) (by have := Lp44_c.out; show _ ≠ p44; omega) (.int .u64 al)) (p := ⟨p44, 2, none⟩) (by have := Lp44_c.out; show _ ≠ p44; omega) (.int .u64 0)) (p := ⟨p44, 3, none⟩) (by have := Lp44_c.out; show _ ≠ p44; omega) (.int .u64 0)) (p := ⟨p44, 4, none⟩) (by have := Lp44_c.out; show _ ≠ p44; omega) (.int .i64 ex)) (p := ⟨p44, 5, none⟩) (by have := Lp44_c.out; show _ ≠ p44; omega) (.bool false))
            have F66' : ((((((w56.setCell ⟨p44, 0, none⟩ (.int .u64 ah)).setCell ⟨p44, 1, none⟩ (.int .u64 al)).setCell ⟨p44, 2, none⟩ (.int .u64 0)).setCell ⟨p44, 3, none⟩ (.int .u64 0)).setCell ⟨p44, 4, none⟩ (.int .i64 ex)).setCell ⟨p44, 5, none⟩ (.bool false)).heap[p44]? = some (.cells #[.int .u64 ah, .int .u64 al, .int .u64 0, .int .u64 0, .int .i64 ex, .bool false] 127 (0, 0)) := by have P := (blk_set (blk_set (blk_set (blk_set (blk_set (blk_set F60.out 0 (.int .u64 ah)) 1 (.int .u64 al)) 2 (.int .u64 0)) 3 (.int .u64 0)) 4 (.int .i64 ex)) 5 (.bool false)); simpa using P
            have HB67' := (bset (bset (bset (bset (bset (bset HB61.out Gp44.out 0 (.int .u64 ah)) Gp44.out 1 (.int .u64 al)) Gp44.out 2 (.int .u64 0)) Gp44.out 3 (.int .u64 0)) Gp44.out 4 (.int .i64 ex)) Gp44.out 5 (.bool false))
            obtain ⟨V62, hV62⟩ : ∃ V, V = ((((((w56.setCell ⟨p44, 0, none⟩ (.int .u64 ah)).setCell ⟨p44, 1, none⟩ (.int .u64 al)).setCell ⟨p44, 2, none⟩ (.int .u64 0)).setCell ⟨p44, 3, none⟩ (.int .u64 0)).setCell ⟨p44, 4, none⟩ (.int .i64 ex)).setCell ⟨p44, 5, none⟩ (.bool false)) := ⟨_, rfl⟩
            rw [← hV62]
            rw [← hV62] at F63'
            have F63 := Aside0.mk F63'
            clear F63'
            rw [← hV62] at F64'
            have F64 := Aside0.mk F64'
            clear F64'
            rw [← hV62] at F65'
            have F65 := Aside0.mk F65'
            clear F65'
            rw [← hV62] at F66'
            have F66 := Aside0.mk F66'
            clear F66'
            rw [← hV62] at HB67'
            have HB67 := Aside0.mk HB67'
            clear HB67'
            clear hV62
            refine hK.out _ _ (⟨(blk_cell F63.out 2).trans rfl, (blk_cell F63.out 3).trans rfl⟩) (fun hHeld2 => ?_)
            clear hK K hHeld
            have hHeld := hHeld2
            clear hHeld2
            (try simp only [Act.put, g4, g5, g6])
            refine wpAnyH_done (by kernel_rfl) ?_ _
            go_wp2
            go_meet
            case rel => exact ⟨p44, ah, al, rfl, (by have := Lp44_c.out; omega), VV.out.1, VV.out.2, F64.out, F65.out, F66.out, HB67.out⟩
          exact AllReadyH.nil
        exact AllReadyH.nil
      exact AllReadyH.nil
    exact AllReadyH.nil
  obtain ⟨p, ah, al, rfl, cp, v1, v2, fb, fc, fp, hb⟩ := hcut
  have CP := Aside0.mk cp
  have VV := Aside0.mk (And.intro v1 v2)
  have FC := Aside0.mk fc
  have FP := Aside0.mk fp
  have FB := Aside0.mk fb
  have HB := Aside0.mk hb
  have c3 := (blk_cell fb 3).trans rfl
  clear cp v1 v2 fb fc fp hb F01 F02 F03 HB0d
  have ne : p ≠ w.heap.size + 1 + 1 := by have := CP.out; omega
  have ne' : w.heap.size + 1 + 1 ≠ p := by have := CP.out; omega
  have NE := Aside0.mk ne
  have NE' := Aside0.mk ne'
  go_wp2_with (first
    | (go_at_call 124; refine (Of_calls s2 _).mono ?_
       rintro e w1 ⟨rfl, hb⟩
       have FC1 := Aside0.mk ((hb.block _ (blk_lt FC.out)).trans FC.out)
       have FP1 := Aside0.mk ((hb.block _ (blk_lt FP.out)).trans FP.out)
       have H1 := Aside0.mk (below_then HB.out HB.out.size hb)
       clear hb c3)
    | (go_at_call 136; refine (Right_calls 0 s2 dn _ u64_0 UU.out.2 DN.out.1 DN.out.2).mono ?_
       rintro e w2 ⟨bh, bl, lost, rfl, v1, v2, hb⟩
       have BB := Aside0.mk (And.intro v1 v2)
       have fc := (hb.block _ (blk_lt FC1.out)).trans FC1.out
       have fp := (hb.block _ (blk_lt FP1.out)).trans FP1.out
       have FC2 := Aside0.mk fc
       have FP2 := Aside0.mk fp
       have H2 := Aside0.mk (below_then H1.out H1.out.size hb)
       have c0 := (blk_cell fc 0).trans rfl
       have cf0 := blk_frozen fc 0
       have c1 := (blk_cell fc 1).trans rfl
       have cf1 := blk_frozen fc 1
       have c2 := (blk_cell fc 2).trans rfl
       have cf2 := blk_frozen fc 2
       have c3 := (blk_cell fc 3).trans rfl
       have cf3 := blk_frozen fc 3
       have c4 := (blk_cell fc 4).trans rfl
       have cf4 := blk_frozen fc 4
       have c5 := (blk_cell fc 5).trans rfl
       have cf5 := blk_frozen fc 5
       have p0 := (blk_cell fp 0).trans rfl
       have pf0 := blk_frozen fp 0
       have p1 := (blk_cell fp 1).trans rfl
       have pf1 := blk_frozen fp 1
       have p2 := (blk_cell fp 2).trans rfl
       have pf2 := blk_frozen fp 2
       have p3 := (blk_cell fp 3).trans rfl
       have pf3 := blk_frozen fp 3
       have p4 := (blk_cell fp 4).trans rfl
       have pf4 := blk_frozen fp 4
       have p5 := (blk_cell fp 5).trans rfl
       have pf5 := blk_frozen fp 5
       clear fc fp hb v1 v2)
    | fail)
  have P := (blk_set (blk_set (blk_set (blk_set (blk_set (blk_set (blk_far (blk_far (blk_far FC2.out (p := ⟨p, 2, none⟩) NE'.out (.int .u64 bh)) (p := ⟨p, 3, none⟩) NE'.out (.int .u64 bl)) (p := ⟨p, 5, none⟩) NE'.out (.bool lost)) 0 (.int .u64 ah)) 1 (.int .u64 al)) 2 (.int .u64 bh)) 3 (.int .u64 bl)) 4 (.int .i64 ex)) 5 (.bool lost))
  have k0 := (blk_cell P 0).trans rfl
  have k1 := (blk_cell P 1).trans rfl
  have k2 := (blk_cell P 2).trans rfl
  have k3 := (blk_cell P 3).trans rfl
  have k4 := (blk_cell P 4).trans rfl
  have k5 := (blk_cell P 5).trans rfl
  clear P c0 cf0 p0 pf0 c1 cf1 p1 pf1 c2 cf2 p2 pf2 c3 cf3 p3 pf3 c4 cf4 p4 pf4 c5 cf5 p5 pf5
  refine bodyPost_ret (v := .agg #[.int .u64 ah, .int .u64 al, .int .u64 bh, .int .u64 bl, .int .i64 ex, .bool lost]) (by simp [results, Tryz.results145, go_sem, k0, k1, k2, k3, k4, k5]) rfl ?_
  exact ⟨ah, al, bh, bl, ex, lost, rfl, VV.out.1, VV.out.2, BB.out.1, BB.out.2, EX.out, (bset (bset (bset (bset (bset (bset (bset (bset (bset H2.out (by have := CP.out; omega) 2 (.int .u64 bh)) (by have := CP.out; omega) 3 (.int .u64 bl)) (by have := CP.out; omega) 5 (.bool lost)) (by omega) 0 (.int .u64 ah)) (by omega) 1 (.int .u64 al)) (by omega) 2 (.int .u64 bh)) (by omega) 3 (.int .u64 bl)) (by omega) 4 (.int .i64 ex)) (by omega) 5 (.bool lost))⟩
end Go.Proofs.YticonaahlplbjaaGreatDoor.Tn
