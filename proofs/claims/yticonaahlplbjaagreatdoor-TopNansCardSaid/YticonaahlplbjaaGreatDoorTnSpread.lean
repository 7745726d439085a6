/- radix.spread. -/
import Derived.Test.YticonaahlplbjaaGreatDoorTnProd
import Derived.WalkMore
namespace Go.Proofs.YticonaahlplbjaaGreatDoor.Tn
open Go.RowKit Go.Proofs.YticonaahlplbjaaGreatDoor.PTopNans Go.Proofs.YticonaahlplbjaaGreatDoorW.PrintWords Go.Proofs.YticonaahlplbjaaGreatDoorW.PrintLast Go.Proofs.YticonaahlplbjaaGreatDoorW.PrintMore
set_option linter.unusedVariables false
set_option linter.unusedSimpArgs false
theorem par_odd {ex up z y : Int} (hz : z = IntKind.i64.wrap (ex - up)) (hy : y = IntKind.i64.wrap (ex - IntKind.i64.wrap (up - 1))) (h : ¬ z.tmod 2 = 0) : y.tmod 2 = 0 := by
  rw [IntKind.wrap_i64] at hz hy
  rw [IntKind.wrap_i64] at hy
  have e1 := Int.tmod_eq_emod (a := z) (b := 2)
  have e2 := Int.tmod_eq_emod (a := y) (b := 2)
  split at e1 <;> split at e2 <;> simp at e1 e2 <;> omega
theorem i64r_any (x : Int) : i64r (wrap64 x) := by unfold i64r wrap64; omega
set_option maxRecDepth 100000 in
set_option maxHeartbeats 4000000 in
theorem spread_calls (neg : Bool) (k ex s : Int) (w : World) (us : u64 s) (ix : i64r ex) : Calls Tryz.prog 125 #[.agg #[.bool neg, .int .i64 k, .int .i64 ex, .int .u64 s]] w fun e w' => ∃ h l x, e = .returned (.tuple #[.agg #[.int .u64 h, .int .u64 l], .int .i64 x]) ∧ u64 h ∧ u64 l ∧ i64r x ∧ Below w.heap.size w w' := by
  have q1 := heap_alloc_new w (.cells #[.bool neg, .int .i64 k, .int .i64 ex, .int .u64 s] 46)
  have q2 := heap_alloc_new (w.alloc (.cells #[.bool neg, .int .i64 k, .int .i64 ex, .int .u64 s] 46)) (.cells #[.int .u64 0, .int .u64 0] 98)
  have q1 := (heap_alloc_old (.cells #[.int .u64 0, .int .u64 0] 98) (blk_lt q1)).trans q1
  have qb := (below_alloc (Below.refl w.heap.size w) (.cells #[.bool neg, .int .i64 k, .int .i64 ex, .int .u64 s] 46)).alloc (by rw [World.size_alloc]; omega) (.cells #[.int .u64 0, .int .u64 0] 98)
  rw [World.size_alloc] at q2
  obtain ⟨W0, hW0⟩ : ∃ W0, W0 = (w.alloc (.cells #[.bool neg, .int .i64 k, .int .i64 ex, .int .u64 s] 46)).alloc (.cells #[.int .u64 0, .int .u64 0] 98) := ⟨_, rfl⟩
  rw [← hW0] at q1 q2 qb
  have F01 := Aside0.mk (show W0.drew.heap[w.heap.size]? = _ from q1)
  have F02 := Aside0.mk (show W0.drew.heap[w.heap.size + 1]? = _ from q2)
  have HB0d := Aside0.mk (below_drew qb)
  have UU := Aside0.mk (And.intro us ix)
  clear q1 q2 qb us ix
  have hW := Aside0.mk hW0
  clear hW0
  go_enter Tryz.func125, Tryz.ntmps125
  go_wp2
  go_step3
  go_upto_region 1 with (fail)
  rw [← hW.out]
  clear hW
  go_cut [4, 5] from 7 (fun s4 s5 wc => ∃ p : Nat, s4 = .pointer (some ⟨p, 0, none⟩) ∧ s5 = .int .i64 ex ∧ w.heap.size + 1 < p ∧ wc.heap[w.heap.size + 1]? = some (.cells #[.int .u64 0, .int .u64 0] 98 (0, 0)) ∧ wc.heap[p]? = some (.cells #[.int .u64 0, .int .u64 s] 98 (0, 0)) ∧ Below w.heap.size w wc)
  case first =>
    refine wp_region_held_drew (S := fun W => W.cell? ⟨w.heap.size, 2, none⟩ = some (.int .i64 ex) ∧ W.cell? ⟨w.heap.size, 3, none⟩ = some (.int .u64 s)) (by kernel_rfl) (⟨(blk_cell F01.out 2).trans rfl, (blk_cell F01.out 3).trans rfl⟩) (fun hHeld => ?_)
    generalize W0.drew = Wd at *
    refine tk (i := 0) ?_
    (try simp only [Act.put, g4, g5, g6])
    refine tk (i := 1) ?_
    (try simp only [Act.put, g4, g5, g6])
    refine tk (i := 3) ?_
    (try simp only [Act.put, g4, g5, g6])
    refine tk (i := 4) ?_
    (try simp only [Act.put, g4, g5, g6])
    refine wpAnyH_ready (rs := [2, 5]) (by kernel_rfl) (by simp) ?_
    refine AllReadyH.cons (o := ?ob1) ?hb1 (fun K hK => ?sb1) ?mb1
    case hb1 => simp only [g1, g2, g3]; rfl
    case sb1 =>
      go_simp
      refine (Of_calls s _).mono ?_
      rintro e w1 ⟨rfl, hb⟩
      have F2 := Aside0.mk ((hb.block _ (blk_lt F01.out)).trans F01.out)
      have F3 := Aside0.mk ((hb.block _ (blk_lt F02.out)).trans F02.out)
      have HB4 := Aside0.mk (below_then HB0d.out HB0d.out.size hb)
      clear hb
      refine hK.out _ _ (⟨(blk_cell F2.out 2).trans rfl, (blk_cell F2.out 3).trans rfl⟩) (fun hHeld2 => ?_)
      clear hK K hHeld
      have hHeld := hHeld2
      clear hHeld2
      (try simp only [Act.put, g4, g5, g6])
      refine wpAnyH_ready (rs := [5]) (by kernel_rfl) (by simp) ?_
      refine AllReadyH.cons (o := ?ob2) ?hb2 (fun K hK => ?sb2) ?mb2
      case hb2 => simp only [g1, g2, g3]; rfl
      case sb2 =>
        go_simp
        have F7' := (heap_alloc_old (.cells #[.int .u64 0, .int .u64 0] 98) (blk_lt F2.out)).trans F2.out
        have F8' := (heap_alloc_old (.cells #[.int .u64 0, .int .u64 0] 98) (blk_lt F3.out)).trans F3.out
        have F9' := heap_alloc_new w1 (.cells #[.int .u64 0, .int .u64 0] 98)
        have HB10' := HB4.out.alloc HB4.out.size (.cells #[.int .u64 0, .int .u64 0] 98)
        obtain ⟨V5, hV5⟩ : ∃ V, V = w1.alloc (.cells #[.int .u64 0, .int .u64 0] 98) := ⟨_, rfl⟩
        have Gp6 := Aside0.mk (show w.heap.size ≤ w1.heap.size from HB4.out.size)
        have Lp6_a := Aside0.mk (blk_lt F2.out)
        have Lp6_b := Aside0.mk (blk_lt F3.out)
        obtain ⟨p6, hp6⟩ : ∃ p, p = w1.heap.size := ⟨_, rfl⟩
        rw [← hp6, ← hV5]
        rw [← hp6, ← hV5] at F9'
        rw [← hp6] at Gp6 Lp6_a Lp6_b
        rw [← hV5] at F7'
        have F7 := Aside0.mk F7'
        rw [← hV5] at F8'
        have F8 := Aside0.mk F8'
        have F9 := Aside0.mk F9'
        rw [← hV5] at HB10'
        have HB10 := Aside0.mk HB10'
        clear hV5 hp6 F7' F8' F9' HB10'
        refine hK.out _ _ (⟨(blk_cell F7.out 2).trans rfl, (blk_cell F7.out 3).trans rfl⟩) (fun hHeld2 => ?_)
        clear hK K hHeld
        have hHeld := hHeld2
        clear hHeld2
        (try simp only [Act.put, g4, g5, g6])
        refine wpAnyH_ready (rs := [6]) (by kernel_rfl) (by simp) ?_
        refine AllReadyH.cons (o := ?ob3) ?hb3 (fun K hK => ?sb3) ?mb3
        case hb3 => simp only [g1, g2, g3]; rfl
        case sb3 =>
          have y0 := (blk_cell F9.out 0).trans rfl
          have fz0 := blk_frozen F9.out 0
          have y1 := (blk_cell F9.out 1).trans rfl
          have fz1 := blk_frozen F9.out 1
          go_simp
          clear y0 fz0 y1 fz1
          have F12' := (blk_far (blk_far F7.out (p := ⟨p6, 0, none⟩) (by have := Lp6_a.out; show _ ≠ p6; omega) (.int .u64 0)) (p := ⟨p6, 1, none⟩) (by have := Lp6_a.out; show _ ≠ p6; omega) (.int .u64 s))
          have F13' := (blk_far (blk_far F8.out (p := ⟨p6, 0, none⟩) (by have := Lp6_b.out; show _ ≠ p6; omega) (.int .u64 0)) (p := ⟨p6, 1, none⟩) (by have := Lp6_b.out; show _ ≠ p6; omega) (.int .u64 s))
          have F14' : ((V5.setCell ⟨p6, 0, none⟩ (.int .u64 0)).setCell ⟨p6, 1, none⟩ (.int .u64 s)).heap[p6]? = some (.cells #[.int .u64 0, .int .u64 s] 98 (0, 0)) := by have P := (blk_set (blk_set F9.out 0 (.int .u64 0)) 1 (.int .u64 s)); simpa using P
          have HB15' := (bset (bset HB10.out Gp6.out 0 (.int .u64 0)) Gp6.out 1 (.int .u64 s))
          obtain ⟨V11, hV11⟩ : ∃ V, V = ((V5.setCell ⟨p6, 0, none⟩ (.int .u64 0)).setCell ⟨p6, 1, none⟩ (.int .u64 s)) := ⟨_, rfl⟩
          rw [← hV11]
          rw [← hV11] at F12'
          have F12 := Aside0.mk F12'
          clear F12'
          rw [← hV11] at F13'
          have F13 := Aside0.mk F13'
          clear F13'
          rw [← hV11] at F14'
          have F14 := Aside0.mk F14'
          clear F14'
          rw [← hV11] at HB15'
          have HB15 := Aside0.mk HB15'
          clear HB15'
          clear hV11
          refine hK.out _ _ (⟨(blk_cell F12.out 2).trans rfl, (blk_cell F12.out 3).trans rfl⟩) (fun hHeld2 => ?_)
          clear hK K hHeld
          have hHeld := hHeld2
          clear hHeld2
          (try simp only [Act.put, g4, g5, g6])
          refine tk (i := 7) ?_
          (try simp only [Act.put, g4, g5, g6])
          refine wpAnyH_done (by kernel_rfl) ?_ _
          go_wp2
          go_meet
          case rel => exact ⟨p6, rfl, rfl, (by have := Lp6_b.out; omega), F13.out, F14.out, HB15.out⟩
        exact AllReadyH.nil
      exact AllReadyH.nil
    refine AllReadyH.cons (o := ?ob4) ?hb4 (fun K hK => ?sb4) ?mb4
    case hb4 => simp only [g1, g2, g3]; rfl
    case sb4 =>
      go_simp
      have F18' := (heap_alloc_old (.cells #[.int .u64 0, .int .u64 0] 98) (blk_lt F01.out)).trans F01.out
      have F19' := (heap_alloc_old (.cells #[.int .u64 0, .int .u64 0] 98) (blk_lt F02.out)).trans F02.out
      have F20' := heap_alloc_new Wd (.cells #[.int .u64 0, .int .u64 0] 98)
      have HB21' := HB0d.out.alloc HB0d.out.size (.cells #[.int .u64 0, .int .u64 0] 98)
      obtain ⟨V16, hV16⟩ : ∃ V, V = Wd.alloc (.cells #[.int .u64 0, .int .u64 0] 98) := ⟨_, rfl⟩
      have Gp17 := Aside0.mk (show w.heap.size ≤ Wd.heap.size from HB0d.out.size)
      have Lp17_a := Aside0.mk (blk_lt F01.out)
      have Lp17_b := Aside0.mk (blk_lt F02.out)
      obtain ⟨p17, hp17⟩ : ∃ p, p = Wd.heap.size := ⟨_, rfl⟩
      rw [← hp17, ← hV16]
      rw [← hp17, ← hV16] at F20'
      rw [← hp17] at Gp17 Lp17_a Lp17_b
      rw [← hV16] at F18'
      have F18 := Aside0.mk F18'
      rw [← hV16] at F19'
      have F19 := Aside0.mk F19'
      have F20 := Aside0.mk F20'
      rw [← hV16] at HB21'
      have HB21 := Aside0.mk HB21'
      clear hV16 hp17 F18' F19' F20' HB21'
      refine hK.out _ _ (⟨(blk_cell F18.out 2).trans rfl, (blk_cell F18.out 3).trans rfl⟩) (fun hHeld2 => ?_)
      clear hK K hHeld
      have hHeld := hHeld2
      clear hHeld2
      (try simp only [Act.put, g4, g5, g6])
      refine wpAnyH_ready (rs := [2]) (by kernel_rfl) (by simp) ?_
      refine AllReadyH.cons (o := ?ob5) ?hb5 (fun K hK => ?sb5) ?mb5
      case hb5 => simp only [g1, g2, g3]; rfl
      case sb5 =>
        go_simp
        refine (Of_calls s _).mono ?_
        rintro e w22 ⟨rfl, hb⟩
        have F23 := Aside0.mk ((hb.block _ (blk_lt F18.out)).trans F18.out)
        have F24 := Aside0.mk ((hb.block _ (blk_lt F19.out)).trans F19.out)
        have F25 := Aside0.mk ((hb.block _ (blk_lt F20.out)).trans F20.out)
        have HB26 := Aside0.mk (below_then HB21.out HB21.out.size hb)
        clear hb
        refine hK.out _ _ (⟨(blk_cell F23.out 2).trans rfl, (blk_cell F23.out 3).trans rfl⟩) (fun hHeld2 => ?_)
        clear hK K hHeld
        have hHeld := hHeld2
        clear hHeld2
        (try simp only [Act.put, g4, g5, g6])
        refine wpAnyH_ready (rs := [6]) (by kernel_rfl) (by simp) ?_
        refine AllReadyH.cons (o := ?ob6) ?hb6 (fun K hK => ?sb6) ?mb6
        case hb6 => simp only [g1, g2, g3]; rfl
        case sb6 =>
          have y0 := (blk_cell F25.out 0).trans rfl
          have fz0 := blk_frozen F25.out 0
          have y1 := (blk_cell F25.out 1).trans rfl
          have fz1 := blk_frozen F25.out 1
          go_simp
          clear y0 fz0 y1 fz1
          have F28' := (blk_far (blk_far F23.out (p := ⟨p17, 0, none⟩) (by have := Lp17_a.out; show _ ≠ p17; omega) (.int .u64 0)) (p := ⟨p17, 1, none⟩) (by have := Lp17_a.out; show _ ≠ p17; omega) (.int .u64 s))
          have F29' := (blk_far (blk_far F24.out (p := ⟨p17, 0, none⟩) (by have := Lp17_b.out; show _ ≠ p17; omega) (.int .u64 0)) (p := ⟨p17, 1, none⟩) (by have := Lp17_b.out; show _ ≠ p17; omega) (.int .u64 s))
          have F30' : ((w22.setCell ⟨p17, 0, none⟩ (.int .u64 0)).setCell ⟨p17, 1, none⟩ (.int .u64 s)).heap[p17]? = some (.cells #[.int .u64 0, .int .u64 s] 98 (0, 0)) := by have P := (blk_set (blk_set F25.out 0 (.int .u64 0)) 1 (.int .u64 s)); simpa using P
          have HB31' := (bset (bset HB26.out Gp17.out 0 (.int .u64 0)) Gp17.out 1 (.int .u64 s))
          obtain ⟨V27, hV27⟩ : ∃ V, V = ((w22.setCell ⟨p17, 0, none⟩ (.int .u64 0)).setCell ⟨p17, 1, none⟩ (.int .u64 s)) := ⟨_, rfl⟩
          rw [← hV27]
          rw [← hV27] at F28'
          have F28 := Aside0.mk F28'
          clear F28'
          rw [← hV27] at F29'
          have F29 := Aside0.mk F29'
          clear F29'
          rw [← hV27] at F30'
          have F30 := Aside0.mk F30'
          clear F30'
          rw [← hV27] at HB31'
          have HB31 := Aside0.mk HB31'
          clear HB31'
          clear hV27
          refine hK.out _ _ (⟨(blk_cell F28.out 2).trans rfl, (blk_cell F28.out 3).trans rfl⟩) (fun hHeld2 => ?_)
          clear hK K hHeld
          have hHeld := hHeld2
          clear hHeld2
          (try simp only [Act.put, g4, g5, g6])
          refine tk (i := 7) ?_
          (try simp only [Act.put, g4, g5, g6])
          refine wpAnyH_done (by kernel_rfl) ?_ _
          go_wp2
          go_meet
          case rel => exact ⟨p17, rfl, rfl, (by have := Lp17_b.out; omega), F29.out, F30.out, HB31.out⟩
        exact AllReadyH.nil
      exact AllReadyH.nil
    exact AllReadyH.nil
  obtain ⟨p, rfl, rfl, cp, fb, fp, hb⟩ := hcut
  have CP := Aside0.mk cp
  have FB := Aside0.mk fb
  have FP := Aside0.mk fp
  have HB := Aside0.mk hb
  have c0 : wc.cell? ⟨p, 0, none⟩ = some (.int .u64 0) := (blk_cell fp 0).trans rfl
  have c1 : wc.cell? ⟨p, 1, none⟩ = some (.int .u64 s) := (blk_cell fp 1).trans rfl
  clear cp fb fp hb F01 F02 HB0d
  go_upto_block 0 with (first
    | (go_at_call 138; (with_reducible refine (Len_calls 0 s _ u64_0 UU.out.1).mono ?_)
       rintro e w1 ⟨r, rfl, r0, r1, hb⟩
       have FB1 := Aside0.mk ((hb.block _ (blk_lt FB.out)).trans FB.out)
       have FP1 := Aside0.mk ((hb.block _ (blk_lt FP.out)).trans FP.out)
       have H1 := Aside0.mk (below_then HB.out HB.out.size hb)
       clear hb c0 c1 r0 r1)
    | fail)
  go_step3
  go_upto_block 0 with (fail)
  have U1 := Aside0.mk (i64r_any (126 - r))
  go_cut [6] from 15 to 21 (fun s6 wc => ∃ u, s6 = .int .i64 u ∧ i64r u ∧ w1 = wc)
  case first =>
    go_wp2_with (fail)
    go_loopg [6] 1 (fun d v6 w2 => ∃ u, v6 = .int .i64 u ∧ Aside0 (i64r u ∧ (d = 0 → (IntKind.i64.wrap (ex - u)).tmod 2 = 0)) ∧ w1 = w2)
    case atStart => exact ⟨_, rfl, ⟨U1.out, fun h => absurd h (by decide)⟩, rfl⟩
    case round =>
      obtain ⟨u, rfl, HD, rfl⟩ := hrel
      obtain ⟨z, hz⟩ : ∃ z, IntKind.i64.wrap (ex - u) = z := ⟨_, rfl⟩
      have hz' : wrap64 (ex - u) = z := (i64_w _).symm.trans hz
      by_cases c : z.tmod 2 = 0
      · have d0 : (z.tmod 2 == 0) = true := beq_iff_eq.2 c
        clear c
        go_wp2
        go_meet
        case rel => exact ⟨_, rfl, HD.out.1, rfl⟩
      · have d0 : (z.tmod 2 == 0) = false := beq_eq_false_iff_ne.2 c
        have CC := Aside0.mk c
        have HZ := Aside0.mk hz.symm
        clear c
        have e1 : 0 < gk := by
          cases gk with
          | zero =>
            have e := HD.out.2 rfl
            rw [hz] at e
            exact absurd e CC.out
          | succ d => exact Nat.succ_pos d
        go_wp2
        go_roundg 0
        case measure => omega
        case rel => exact ⟨_, rfl, ⟨i64r_any _, fun _ => par_odd HZ.out (by rw [i64_w, i64_w, i64_w]) CC.out⟩, rfl⟩
  obtain ⟨u, rfl, hu, rfl⟩ := hcut
  have UU2 := Aside0.mk hu
  clear hu U1
  have c0 : w1.cell? ⟨p, 0, none⟩ = some (.int .u64 0) := (blk_cell FP1.out 0).trans rfl
  have c1 : w1.cell? ⟨p, 1, none⟩ = some (.int .u64 s) := (blk_cell FP1.out 1).trans rfl
  go_wp2_with (first
    | (go_at_call 140; refine (Left_calls 0 s u _ u64_0 UU.out.1 UU2.out.1 UU2.out.2).mono ?_
       rintro e w2 ⟨lh, ll, rfl, v1, v2, hb⟩
       have F2 := Aside0.mk ((hb.block _ (blk_lt FB1.out)).trans FB1.out)
       have H2 := Aside0.mk (below_then H1.out H1.out.size hb)
       have VV := Aside0.mk (And.intro v1 v2)
       have y0 := (blk_cell F2.out 0).trans rfl
       have y1 := (blk_cell F2.out 1).trans rfl
       have fz0 := blk_frozen F2.out 0
       have fz1 := blk_frozen F2.out 1
       clear hb c0 c1 v1 v2)
    | fail)
  have P := blk_set (blk_set F2.out 0 (.int .u64 lh)) 1 (.int .u64 ll)
  have k0 := (blk_cell P 0).trans rfl
  have k1 := (blk_cell P 1).trans rfl
  rw [Exit.noGoto_ret]
  clear y0 y1 fz0 fz1 P
  refine bodyPost_ret (v := .tuple #[.agg #[.int .u64 lh, .int .u64 ll], .int .i64 (wrap64 (ex - u))]) (by simp [results, Tryz.results125, go_sem, k0, k1]) rfl ?_
  exact ⟨lh, ll, _, rfl, VV.out.1, VV.out.2, i64r_any _, bset (bset H2.out (by omega) _ _) (by omega) _ _⟩
end Go.Proofs.YticonaahlplbjaaGreatDoor.Tn
