/- The walks of wide: Len, Add, Sub. -/
import Derived.Test.YticonaahlplbjaaGreatDoorTnWide
import Derived.Test.YticonaahlplbjaaGreatDoorTnLead
import Derived.Test.YticonaahlplbjaaGreatDoorTnExt
import Derived.Deep.Cut
import Derived.Deep.CutRange
import Derived.OrdersHeld
import Derived.Deep.RegionHeld
namespace Go.Proofs.YticonaahlplbjaaGreatDoor.Tn
open Go.RowKit Go.Proofs.YticonaahlplbjaaGreatDoor.PTopNans Go.Proofs.YticonaahlplbjaaGreatDoorW.PrintWords Go.Proofs.YticonaahlplbjaaGreatDoorW.PrintLast Go.Proofs.YticonaahlplbjaaGreatDoorW.PrintMore
set_option linter.unusedVariables false
set_option linter.unusedSimpArgs false
set_option maxRecDepth 100000 in
set_option maxHeartbeats 4000000 in
theorem Len_calls (h l : Int) (w : World) (hh : u64 h) (hl : u64 l) : Calls Tryz.prog 138 #[.agg #[.int .u64 h, .int .u64 l]] w fun e w' => ∃ r, e = .returned (.int .i64 r) ∧ 0 ≤ r ∧ r ≤ 128 ∧ Below w.heap.size w w' := by
  have L1 := Aside0.mk (fun W => Tryz.bits_Len64 h W hh.1 (by have := hh.2; omega))
  have L2 := Aside0.mk (fun W => Tryz.bits_Len64 l W hl.1 (by have := hl.2; omega))
  have B1 := Tryz.bitLen_le64 h hh.1 (by have := hh.2; omega)
  have B2 := Tryz.bitLen_le64 l hl.1 (by have := hl.2; omega)
  obtain ⟨r1, hr1⟩ : ∃ r1 : Int, r1 = (Lib.bitLen h.toNat : Int) := ⟨_, rfl⟩
  obtain ⟨r2, hr2⟩ : ∃ r2 : Int, r2 = (Lib.bitLen l.toNat : Int) := ⟨_, rfl⟩
  rw [← hr1] at L1
  rw [← hr2] at L2
  have b1 : 0 ≤ r1 ∧ r1 ≤ 64 := by omega
  have b2 : 0 ≤ r2 ∧ r2 ≤ 64 := by omega
  have wa : IntKind.i64.wrap (64 + r1) = 64 + r1 := by simp only [IntKind.wrap_i64]; omega
  have BB := Aside0.mk (And.intro b1 b2)
  clear hr1 hr2 b1 b2 B1 B2 hh hl
  by_cases c : h > 0
  · have d : decide (h > 0) = true := decide_eq_true c
    go_enter Tryz.func138, Tryz.ntmps138
    go_wp2_with (first | (go_at_call 75; refine (L1.out _).mono ?_; rintro e w1 ⟨rfl, rfl⟩) | fail)
    go_ret
    exact ⟨64 + r1, rfl, by have := BB.out; omega, by have := BB.out; omega, below_alloc (Below.refl _ _) _⟩
  · have d : decide (h > 0) = false := decide_eq_false c
    go_enter Tryz.func138, Tryz.ntmps138
    go_wp2_with (first | (go_at_call 75; refine (L2.out _).mono ?_; rintro e w1 ⟨rfl, rfl⟩) | fail)
    go_ret
    exact ⟨r2, rfl, by have := BB.out; omega, by have := BB.out; omega, below_alloc (Below.refl _ _) _⟩
set_option maxRecDepth 100000 in
set_option maxHeartbeats 4000000 in
theorem words_calls (h l : Int) (w : World) : Calls Tryz.prog 152 #[.agg #[.int .u64 h, .int .u64 l]] w fun e w' => e = .returned (.agg #[.int .u64 l, .int .u64 h]) ∧ Below w.heap.size w w' := by
  have P : ((w.alloc (.cells #[.int .u64 h, .int .u64 l] 98)).alloc (.cells #[.int .u64 l, .int .u64 h] 93)).heap[w.heap.size + 1]? = some (.cells #[.int .u64 l, .int .u64 h] 93 (0, 0)) := by
    have := heap_alloc_new (w.alloc (.cells #[.int .u64 h, .int .u64 l] 98)) (.cells #[.int .u64 l, .int .u64 h] 93)
    rw [World.size_alloc] at this
    exact this
  have k0 := (blk_cell P 0).trans rfl
  have k1 := (blk_cell P 1).trans rfl
  clear P
  go_enter Tryz.func152, Tryz.ntmps152
  go_wp2
  refine bodyPost_ret (v := .agg #[.int .u64 l, .int .u64 h]) (by simp [results, Tryz.results152, go_sem, k0, k1]) rfl ?_
  exact ⟨rfl, (below_alloc (Below.refl _ _) _).alloc (by rw [World.size_alloc]; omega) _⟩
set_option maxRecDepth 100000 in
set_option maxHeartbeats 4000000 in
theorem of_calls (a b : Int) (w : World) : Calls Tryz.prog 154 #[.agg #[.int .u64 a, .int .u64 b]] w fun e w' => e = .returned (.agg #[.int .u64 b, .int .u64 a]) ∧ Below w.heap.size w w' := by
  have P : ((w.alloc (.cells #[.int .u64 a, .int .u64 b] 93)).alloc (.cells #[.int .u64 b, .int .u64 a] 98)).heap[w.heap.size + 1]? = some (.cells #[.int .u64 b, .int .u64 a] 98 (0, 0)) := by
    have := heap_alloc_new (w.alloc (.cells #[.int .u64 a, .int .u64 b] 93)) (.cells #[.int .u64 b, .int .u64 a] 98)
    rw [World.size_alloc] at this
    exact this
  have k0 := (blk_cell P 0).trans rfl
  have k1 := (blk_cell P 1).trans rfl
  clear P
  go_enter Tryz.func154, Tryz.ntmps154
  go_wp2
  refine bodyPost_ret (v := .agg #[.int .u64 b, .int .u64 a]) (by simp [results, Tryz.results154, go_sem, k0, k1]) rfl ?_
  exact ⟨rfl, (below_alloc (Below.refl _ _) _).alloc (by rw [World.size_alloc]; omega) _⟩
set_option maxRecDepth 100000 in
set_option maxHeartbeats 4000000 in
theorem Add_calls (h l h2 l2 : Int) (w : World) (hh : u64 h) (hl : u64 l) (hh2 : u64 h2) (hl2 : u64 l2) : Calls Tryz.prog 139 #[.agg #[.int .u64 h, .int .u64 l], .agg #[.int .u64 h2, .int .u64 l2]] w (WideP w) := by
  have q1 := heap_alloc_new w (.cells #[.int .u64 h, .int .u64 l] 98)
  have q2 := heap_alloc_new (w.alloc (.cells #[.int .u64 h, .int .u64 l] 98)) (.cells #[.int .u64 h2, .int .u64 l2] 98)
  have q3 := heap_alloc_new ((w.alloc (.cells #[.int .u64 h, .int .u64 l] 98)).alloc (.cells #[.int .u64 h2, .int .u64 l2] 98)) (.cells #[.int .u64 0, .int .u64 0] 98)
  have q1 := (heap_alloc_old (.cells #[.int .u64 0, .int .u64 0] 98) (blk_lt ((heap_alloc_old (.cells #[.int .u64 h2, .int .u64 l2] 98) (blk_lt q1)).trans q1))).trans ((heap_alloc_old (.cells #[.int .u64 h2, .int .u64 l2] 98) (blk_lt q1)).trans q1)
  have q2 := (heap_alloc_old (.cells #[.int .u64 0, .int .u64 0] 98) (blk_lt q2)).trans q2
  have qb := ((below_alloc (Below.refl w.heap.size w) (.cells #[.int .u64 h, .int .u64 l] 98)).alloc (by rw [World.size_alloc]; omega) (.cells #[.int .u64 h2, .int .u64 l2] 98)).alloc (by rw [World.size_alloc, World.size_alloc]; omega) (.cells #[.int .u64 0, .int .u64 0] 98)
  rw [World.size_alloc] at q2
  rw [World.size_alloc, World.size_alloc] at q3
  obtain ⟨W0, hW0⟩ : ∃ W0, W0 = ((w.alloc (.cells #[.int .u64 h, .int .u64 l] 98)).alloc (.cells #[.int .u64 h2, .int .u64 l2] 98)).alloc (.cells #[.int .u64 0, .int .u64 0] 98) := ⟨_, rfl⟩
  rw [← hW0] at q1 q2 q3 qb
  have F01 := Aside0.mk (show W0.drew.heap[w.heap.size]? = _ from q1)
  have F02 := Aside0.mk (show W0.drew.heap[w.heap.size + 1]? = _ from q2)
  have F03 := Aside0.mk (show W0.drew.heap[w.heap.size + 1 + 1]? = _ from q3)
  have HB0d := Aside0.mk (below_drew qb)
  have KA := Aside0.mk (show ∀ W : World, W.heap[w.heap.size]? = some (.cells #[.int .u64 h, .int .u64 l] 98 (0, 0)) → W.heap[w.heap.size + 1]? = some (.cells #[.int .u64 h2, .int .u64 l2] 98 (0, 0)) → (fun W => W.cell? ⟨w.heap.size, 0, none⟩ = some (.int .u64 h) ∧ W.cell? ⟨w.heap.size, 1, none⟩ = some (.int .u64 l) ∧ W.cell? ⟨w.heap.size + 1, 0, none⟩ = some (.int .u64 h2) ∧ W.cell? ⟨w.heap.size + 1, 1, none⟩ = some (.int .u64 l2)) W from fun W h1 h2 => ⟨(blk_cell h1 0).trans rfl, (blk_cell h1 1).trans rfl, (blk_cell h2 0).trans rfl, (blk_cell h2 1).trans rfl⟩)
  have HH := Aside0.mk (And.intro (And.intro hh hl) (And.intro hh2 hl2))
  clear q1 q2 q3 qb hh hl hh2 hl2
  have hW := Aside0.mk hW0
  clear hW0
  go_enter Tryz.func139, Tryz.ntmps139
  go_wp2
  rw [← hW.out]
  clear hW
  go_cut [5, 6] from 9 (fun s5 s6 wc => ∃ p q : Nat, s5 = .pointer (some ⟨p, 0, none⟩) ∧ s6 = .pointer (some ⟨q, 0, none⟩) ∧ p ≠ q ∧ w.heap.size + 1 + 1 < p ∧ w.heap.size + 1 + 1 < q ∧ wc.heap[w.heap.size + 1 + 1]? = some (.cells #[.int .u64 0, .int .u64 0] 98 (0, 0)) ∧ wc.heap[p]? = some (.cells #[.int .u64 l, .int .u64 h] 93 (0, 0)) ∧ wc.heap[q]? = some (.cells #[.int .u64 l2, .int .u64 h2] 93 (0, 0)) ∧ Below w.heap.size w wc)
  case first =>
    refine wp_region_held_drew (S := fun W => W.cell? ⟨w.heap.size, 0, none⟩ = some (.int .u64 h) ∧ W.cell? ⟨w.heap.size, 1, none⟩ = some (.int .u64 l) ∧ W.cell? ⟨w.heap.size + 1, 0, none⟩ = some (.int .u64 h2) ∧ W.cell? ⟨w.heap.size + 1, 1, none⟩ = some (.int .u64 l2)) (by kernel_rfl) (KA.out _ F01.out F02.out) (fun hHeld => ?_)
    generalize W0.drew = Wd at *
    refine tk (i := 0) ?_
    (try simp only [Act.put, g4, g5, g6])
    refine tk (i := 2) ?_
    (try simp only [Act.put, g4, g5, g6])
    refine wpAnyH_ready (rs := [1, 4, 5]) (by kernel_rfl) (by simp) ?_
    refine AllReadyH.cons (o := ?ob1) ?hb1 (fun K hK => ?sb1) ?mb1
    case hb1 => simp only [g1, g2, g3]; rfl
    case sb1 =>
      go_simp
      refine (words_calls h l _).mono ?_
      rintro e w1 ⟨rfl, hb⟩
      have F2 := Aside0.mk ((hb.block _ (blk_lt F01.out)).trans F01.out)
      have F3 := Aside0.mk ((hb.block _ (blk_lt F02.out)).trans F02.out)
      have F4 := Aside0.mk ((hb.block _ (blk_lt F03.out)).trans F03.out)
      have HB5 := Aside0.mk (below_then HB0d.out HB0d.out.size hb)
      clear hb
      refine hK.out _ _ (KA.out _ F2.out F3.out) (fun hHeld2 => ?_)
      clear hK K hHeld
      have hHeld := hHeld2
      clear hHeld2
      (try simp only [Act.put, g4, g5, g6])
      refine wpAnyH_ready (rs := [3, 4, 5]) (by kernel_rfl) (by simp) ?_
      refine AllReadyH.cons (o := ?ob2) ?hb2 (fun K hK => ?sb2) ?mb2
      case hb2 => simp only [g1, g2, g3]; rfl
      case sb2 =>
        go_simp
        refine (words_calls h2 l2 _).mono ?_
        rintro e w6 ⟨rfl, hb⟩
        have F7 := Aside0.mk ((hb.block _ (blk_lt F2.out)).trans F2.out)
        have F8 := Aside0.mk ((hb.block _ (blk_lt F3.out)).trans F3.out)
        have F9 := Aside0.mk ((hb.block _ (blk_lt F4.out)).trans F4.out)
        have HB10 := Aside0.mk (below_then HB5.out HB5.out.size hb)
        clear hb
        refine hK.out _ _ (KA.out _ F7.out F8.out) (fun hHeld2 => ?_)
        clear hK K hHeld
        have hHeld := hHeld2
        clear hHeld2
        (try simp only [Act.put, g4, g5, g6])
        refine wpAnyH_ready (rs := [4, 5]) (by kernel_rfl) (by simp) ?_
        refine AllReadyH.cons (o := ?ob3) ?hb3 (fun K hK => ?sb3) ?mb3
        case hb3 => simp only [g1, g2, g3]; rfl
        case sb3 =>
          go_simp
          have F13' := (heap_alloc_old (.cells #[.int .u64 0, .int .u64 0] 93) (blk_lt F7.out)).trans F7.out
          have F14' := (heap_alloc_old (.cells #[.int .u64 0, .int .u64 0] 93) (blk_lt F8.out)).trans F8.out
          have F15' := (heap_alloc_old (.cells #[.int .u64 0, .int .u64 0] 93) (blk_lt F9.out)).trans F9.out
          have F16' := heap_alloc_new w6 (.cells #[.int .u64 0, .int .u64 0] 93)
          have HB17' := HB10.out.alloc HB10.out.size (.cells #[.int .u64 0, .int .u64 0] 93)
          obtain ⟨V11, hV11⟩ : ∃ V, V = w6.alloc (.cells #[.int .u64 0, .int .u64 0] 93) := ⟨_, rfl⟩
          have Gp12 := Aside0.mk (show w.heap.size ≤ w6.heap.size from HB10.out.size)
          have Lp12_a := Aside0.mk (blk_lt F7.out)
          have Lp12_b := Aside0.mk (blk_lt F8.out)
          have Lp12_c := Aside0.mk (blk_lt F9.out)
          obtain ⟨p12, hp12⟩ : ∃ p, p = w6.heap.size := ⟨_, rfl⟩
          rw [← hp12, ← hV11]
          rw [← hp12, ← hV11] at F16'
          rw [← hp12] at Gp12 Lp12_a Lp12_b Lp12_c
          rw [← hV11] at F13'
          have F13 := Aside0.mk F13'
          rw [← hV11] at F14'
          have F14 := Aside0.mk F14'
          rw [← hV11] at F15'
          have F15 := Aside0.mk F15'
          have F16 := Aside0.mk F16'
          rw [← hV11] at HB17'
          have HB17 := Aside0.mk HB17'
          clear hV11 hp12 F13' F14' F15' F16' HB17'
          refine hK.out _ _ (KA.out _ F13.out F14.out) (fun hHeld2 => ?_)
          clear hK K hHeld
          have hHeld := hHeld2
          clear hHeld2
          (try simp only [Act.put, g4, g5, g6])
          refine wpAnyH_ready (rs := [5]) (by kernel_rfl) (by simp) ?_
          refine AllReadyH.cons (o := ?ob4) ?hb4 (fun K hK => ?sb4) ?mb4
          case hb4 => simp only [g1, g2, g3]; rfl
          case sb4 =>
            go_simp
            have F20' := (heap_alloc_old (.cells #[.int .u64 0, .int .u64 0] 93) (blk_lt F13.out)).trans F13.out
            have F21' := (heap_alloc_old (.cells #[.int .u64 0, .int .u64 0] 93) (blk_lt F14.out)).trans F14.out
            have F22' := (heap_alloc_old (.cells #[.int .u64 0, .int .u64 0] 93) (blk_lt F15.out)).trans F15.out
            have F23' := (heap_alloc_old (.cells #[.int .u64 0, .int .u64 0] 93) (blk_lt F16.out)).trans F16.out
            have F24' := heap_alloc_new V11 (.cells #[.int .u64 0, .int .u64 0] 93)
            have HB25' := HB17.out.alloc HB17.out.size (.cells #[.int .u64 0, .int .u64 0] 93)
            obtain ⟨V18, hV18⟩ : ∃ V, V = V11.alloc (.cells #[.int .u64 0, .int .u64 0] 93) := ⟨_, rfl⟩
            have Gp19 := Aside0.mk (show w.heap.size ≤ V11.heap.size from HB17.out.size)
            have Lp19_a := Aside0.mk (blk_lt F13.out)
            have Lp19_b := Aside0.mk (blk_lt F14.out)
            have Lp19_c := Aside0.mk (blk_lt F15.out)
            have Lp19_p4 := Aside0.mk (blk_lt F16.out)
            obtain ⟨p19, hp19⟩ : ∃ p, p = V11.heap.size := ⟨_, rfl⟩
            rw [← hp19, ← hV18]
            rw [← hp19, ← hV18] at F24'
            rw [← hp19] at Gp19 Lp19_a Lp19_b Lp19_c Lp19_p4
            rw [← hV18] at F20'
            have F20 := Aside0.mk F20'
            rw [← hV18] at F21'
            have F21 := Aside0.mk F21'
            rw [← hV18] at F22'
            have F22 := Aside0.mk F22'
            rw [← hV18] at F23'
            have F23 := Aside0.mk F23'
            have F24 := Aside0.mk F24'
            rw [← hV18] at HB25'
            have HB25 := Aside0.mk HB25'
            clear hV18 hp19 F20' F21' F22' F23' F24' HB25'
            refine hK.out _ _ (KA.out _ F20.out F21.out) (fun hHeld2 => ?_)
            clear hK K hHeld
            have hHeld := hHeld2
            clear hHeld2
            (try simp only [Act.put, g4, g5, g6])
            refine wpAnyH_ready (rs := [6]) (by kernel_rfl) (by simp) ?_
            refine AllReadyH.cons (o := ?ob5) ?hb5 (fun K hK => ?sb5) ?mb5
            case hb5 => simp only [g1, g2, g3]; rfl
            case sb5 =>
              have fz0 := blk_frozen F23.out 0
              have fz1 := blk_frozen F23.out 1
              have y0 := (blk_cell F23.out 0).trans rfl
              have y1 := (blk_cell F23.out 1).trans rfl
              go_simp
              clear fz0 fz1 y0 y1
              have F27' := blk_far (blk_far F20.out (p := ⟨p12, 0, none⟩) (by have := Lp12_a.out; show _ ≠ p12; omega) (.int .u64 l)) (p := ⟨p12, 1, none⟩) (by have := Lp12_a.out; show _ ≠ p12; omega) (.int .u64 h)
              have F28' := blk_far (blk_far F21.out (p := ⟨p12, 0, none⟩) (by have := Lp12_b.out; show _ ≠ p12; omega) (.int .u64 l)) (p := ⟨p12, 1, none⟩) (by have := Lp12_b.out; show _ ≠ p12; omega) (.int .u64 h)
              have F29' := blk_far (blk_far F22.out (p := ⟨p12, 0, none⟩) (by have := Lp12_c.out; show _ ≠ p12; omega) (.int .u64 l)) (p := ⟨p12, 1, none⟩) (by have := Lp12_c.out; show _ ≠ p12; omega) (.int .u64 h)
              have F30' : ((V18.setCell ⟨p12, 0, none⟩ (.int .u64 l)).setCell ⟨p12, 1, none⟩ (.int .u64 h)).heap[p12]? = some (.cells #[.int .u64 l, .int .u64 h] 93 (0, 0)) := by have P := blk_set (blk_set F23.out 0 (.int .u64 l)) 1 (.int .u64 h); simpa using P
              have F31' := blk_far (blk_far F24.out (p := ⟨p12, 0, none⟩) (by show p19 ≠ p12; have := Lp19_p4.out; omega) (.int .u64 l)) (p := ⟨p12, 1, none⟩) (by show p19 ≠ p12; have := Lp19_p4.out; omega) (.int .u64 h)
              have HB32' := bset (bset HB25.out Gp12.out 0 (.int .u64 l)) Gp12.out 1 (.int .u64 h)
              obtain ⟨V26, hV26⟩ : ∃ V, V = ((V18.setCell ⟨p12, 0, none⟩ (.int .u64 l)).setCell ⟨p12, 1, none⟩ (.int .u64 h)) := ⟨_, rfl⟩
              rw [← hV26]
              rw [← hV26] at F27'
              have F27 := Aside0.mk F27'
              clear F27'
              rw [← hV26] at F28'
              have F28 := Aside0.mk F28'
              clear F28'
              rw [← hV26] at F29'
              have F29 := Aside0.mk F29'
              clear F29'
              rw [← hV26] at F30'
              have F30 := Aside0.mk F30'
              clear F30'
              rw [← hV26] at F31'
              have F31 := Aside0.mk F31'
              clear F31'
              rw [← hV26] at HB32'
              have HB32 := Aside0.mk HB32'
              clear HB32'
              clear hV26
              refine hK.out _ _ (KA.out _ F27.out F28.out) (fun hHeld2 => ?_)
              clear hK K hHeld
              have hHeld := hHeld2
              clear hHeld2
              (try simp only [Act.put, g4, g5, g6])
              refine wpAnyH_ready (rs := [7]) (by kernel_rfl) (by simp) ?_
              refine AllReadyH.cons (o := ?ob6) ?hb6 (fun K hK => ?sb6) ?mb6
              case hb6 => simp only [g1, g2, g3]; rfl
              case sb6 =>
                have fz0 := blk_frozen F31.out 0
                have fz1 := blk_frozen F31.out 1
                have y0 := (blk_cell F31.out 0).trans rfl
                have y1 := (blk_cell F31.out 1).trans rfl
                go_simp
                clear fz0 fz1 y0 y1
                have F34' := blk_far (blk_far F27.out (p := ⟨p19, 0, none⟩) (by have := Lp19_a.out; show _ ≠ p19; omega) (.int .u64 l2)) (p := ⟨p19, 1, none⟩) (by have := Lp19_a.out; show _ ≠ p19; omega) (.int .u64 h2)
                have F35' := blk_far (blk_far F28.out (p := ⟨p19, 0, none⟩) (by have := Lp19_b.out; show _ ≠ p19; omega) (.int .u64 l2)) (p := ⟨p19, 1, none⟩) (by have := Lp19_b.out; show _ ≠ p19; omega) (.int .u64 h2)
                have F36' := blk_far (blk_far F29.out (p := ⟨p19, 0, none⟩) (by have := Lp19_c.out; show _ ≠ p19; omega) (.int .u64 l2)) (p := ⟨p19, 1, none⟩) (by have := Lp19_c.out; show _ ≠ p19; omega) (.int .u64 h2)
                have F37' := blk_far (blk_far F30.out (p := ⟨p19, 0, none⟩) (by show p12 ≠ p19; have := Lp19_p4.out; omega) (.int .u64 l2)) (p := ⟨p19, 1, none⟩) (by show p12 ≠ p19; have := Lp19_p4.out; omega) (.int .u64 h2)
                have F38' : ((V26.setCell ⟨p19, 0, none⟩ (.int .u64 l2)).setCell ⟨p19, 1, none⟩ (.int .u64 h2)).heap[p19]? = some (.cells #[.int .u64 l2, .int .u64 h2] 93 (0, 0)) := by have P := blk_set (blk_set F31.out 0 (.int .u64 l2)) 1 (.int .u64 h2); simpa using P
                have HB39' := bset (bset HB32.out Gp19.out 0 (.int .u64 l2)) Gp19.out 1 (.int .u64 h2)
                obtain ⟨V33, hV33⟩ : ∃ V, V = ((V26.setCell ⟨p19, 0, none⟩ (.int .u64 l2)).setCell ⟨p19, 1, none⟩ (.int .u64 h2)) := ⟨_, rfl⟩
                rw [← hV33]
                rw [← hV33] at F34'
                have F34 := Aside0.mk F34'
                clear F34'
                rw [← hV33] at F35'
                have F35 := Aside0.mk F35'
                clear F35'
                rw [← hV33] at F36'
                have F36 := Aside0.mk F36'
                clear F36'
                rw [← hV33] at F37'
                have F37 := Aside0.mk F37'
                clear F37'
                rw [← hV33] at F38'
                have F38 := Aside0.mk F38'
                clear F38'
                rw [← hV33] at HB39'
                have HB39 := Aside0.mk HB39'
                clear HB39'
                clear hV33
                refine hK.out _ _ (KA.out _ F34.out F35.out) (fun hHeld2 => ?_)
                clear hK K hHeld
                have hHeld := hHeld2
                clear hHeld2
                (try simp only [Act.put, g4, g5, g6])
                refine wpAnyH_done (by kernel_rfl) ?_ _
                go_wp2
                go_meet
                case rel => exact ⟨p12, p19, rfl, rfl, (by have := Lp19_p4.out; omega), (by have := Lp12_c.out; omega), (by have := Lp19_c.out; omega), F36.out, F37.out, F38.out, HB39.out⟩
              exact AllReadyH.nil
            exact AllReadyH.nil
          exact AllReadyH.nil
        refine AllReadyH.cons (o := ?ob7) ?hb7 (fun K hK => ?sb7) ?mb7
        case hb7 => simp only [g1, g2, g3]; rfl
        case sb7 =>
          go_simp
          have F42' := (heap_alloc_old (.cells #[.int .u64 0, .int .u64 0] 93) (blk_lt F7.out)).trans F7.out
          have F43' := (heap_alloc_old (.cells #[.int .u64 0, .int .u64 0] 93) (blk_lt F8.out)).trans F8.out
          have F44' := (heap_alloc_old (.cells #[.int .u64 0, .int .u64 0] 93) (blk_lt F9.out)).trans F9.out
          have F45' := heap_alloc_new w6 (.cells #[.int .u64 0, .int .u64 0] 93)
          have HB46' := HB10.out.alloc HB10.out.size (.cells #[.int .u64 0, .int .u64 0] 93)
          obtain ⟨V40, hV40⟩ : ∃ V, V = w6.alloc (.cells #[.int .u64 0, .int .u64 0] 93) := ⟨_, rfl⟩
          have Gp41 := Aside0.mk (show w.heap.size ≤ w6.heap.size from HB10.out.size)
          have Lp41_a := Aside0.mk (blk_lt F7.out)
          have Lp41_b := Aside0.mk (blk_lt F8.out)
          have Lp41_c := Aside0.mk (blk_lt F9.out)
          obtain ⟨p41, hp41⟩ : ∃ p, p = w6.heap.size := ⟨_, rfl⟩
          rw [← hp41, ← hV40]
          rw [← hp41, ← hV40] at F45'
          rw [← hp41] at Gp41 Lp41_a Lp41_b Lp41_c
          rw [← hV40] at F42'
          have F42 := Aside0.mk F42'
          rw [← hV40] at F43'
          have F43 := Aside0.mk F43'
          rw [← hV40] at F44'
          have F44 := Aside0.mk F44'
          have F45 := Aside0.mk F45'
          rw [← hV40] at HB46'
          have HB46 := Aside0.mk HB46'
          clear hV40 hp41 F42' F43' F44' F45' HB46'
          refine hK.out _ _ (KA.out _ F42.out F43.out) (fun hHeld2 => ?_)
          clear hK K hHeld
          have hHeld := hHeld2
          clear hHeld2
          (try simp only [Act.put, g4, g5, g6])
          refine wpAnyH_ready (rs := [4]) (by kernel_rfl) (by simp) ?_
          refine AllReadyH.cons (o := ?ob8) ?hb8 (fun K hK => ?sb8) ?mb8
          case hb8 => simp only [g1, g2, g3]; rfl
          case sb8 =>
            go_simp
            have F49' := (heap_alloc_old (.cells #[.int .u64 0, .int .u64 0] 93) (blk_lt F42.out)).trans F42.out
            have F50' := (heap_alloc_old (.cells #[.int .u64 0, .int .u64 0] 93) (blk_lt F43.out)).trans F43.out
            have F51' := (heap_alloc_old (.cells #[.int .u64 0, .int .u64 0] 93) (blk_lt F44.out)).trans F44.out
            have F52' := (heap_alloc_old (.cells #[.int .u64 0, .int .u64 0] 93) (blk_lt F45.out)).trans F45.out
            have F53' := heap_alloc_new V40 (.cells #[.int .u64 0, .int .u64 0] 93)
            have HB54' := HB46.out.alloc HB46.out.size (.cells #[.int .u64 0, .int .u64 0] 93)
            obtain ⟨V47, hV47⟩ : ∃ V, V = V40.alloc (.cells #[.int .u64 0, .int .u64 0] 93) := ⟨_, rfl⟩
            have Gp48 := Aside0.mk (show w.heap.size ≤ V40.heap.size from HB46.out.size)
            have Lp48_a := Aside0.mk (blk_lt F42.out)
            have Lp48_b := Aside0.mk (blk_lt F43.out)
            have Lp48_c := Aside0.mk (blk_lt F44.out)
            have Lp48_p5 := Aside0.mk (blk_lt F45.out)
            obtain ⟨p48, hp48⟩ : ∃ p, p = V40.heap.size := ⟨_, rfl⟩
            rw [← hp48, ← hV47]
            rw [← hp48, ← hV47] at F53'
            rw [← hp48] at Gp48 Lp48_a Lp48_b Lp48_c Lp48_p5
            rw [← hV47] at F49'
            have F49 := Aside0.mk F49'
            rw [← hV47] at F50'
            have F50 := Aside0.mk F50'
            rw [← hV47] at F51'
            have F51 := Aside0.mk F51'
            rw [← hV47] at F52'
            have F52 := Aside0.mk F52'
            have F53 := Aside0.mk F53'
            rw [← hV47] at HB54'
            have HB54 := Aside0.mk HB54'
            clear hV47 hp48 F49' F50' F51' F52' F53' HB54'
            refine hK.out _ _ (KA.out _ F49.out F50.out) (fun hHeld2 => ?_)
            clear hK K hHeld
            have hHeld := hHeld2
            clear hHeld2
            (try simp only [Act.put, g4, g5, g6])
            refine wpAnyH_ready (rs := [6]) (by kernel_rfl) (by simp) ?_
            refine AllReadyH.cons (o := ?ob9) ?hb9 (fun K hK => ?sb9) ?mb9
            case hb9 => simp only [g1, g2, g3]; rfl
            case sb9 =>
              have fz0 := blk_frozen F53.out 0
              have fz1 := blk_frozen F53.out 1
              have y0 := (blk_cell F53.out 0).trans rfl
              have y1 := (blk_cell F53.out 1).trans rfl
              go_simp
              clear fz0 fz1 y0 y1
              have F56' := blk_far (blk_far F49.out (p := ⟨p48, 0, none⟩) (by have := Lp48_a.out; show _ ≠ p48; omega) (.int .u64 l)) (p := ⟨p48, 1, none⟩) (by have := Lp48_a.out; show _ ≠ p48; omega) (.int .u64 h)
              have F57' := blk_far (blk_far F50.out (p := ⟨p48, 0, none⟩) (by have := Lp48_b.out; show _ ≠ p48; omega) (.int .u64 l)) (p := ⟨p48, 1, none⟩) (by have := Lp48_b.out; show _ ≠ p48; omega) (.int .u64 h)
              have F58' := blk_far (blk_far F51.out (p := ⟨p48, 0, none⟩) (by have := Lp48_c.out; show _ ≠ p48; omega) (.int .u64 l)) (p := ⟨p48, 1, none⟩) (by have := Lp48_c.out; show _ ≠ p48; omega) (.int .u64 h)
              have F59' := blk_far (blk_far F52.out (p := ⟨p48, 0, none⟩) (by show p41 ≠ p48; have := Lp48_p5.out; omega) (.int .u64 l)) (p := ⟨p48, 1, none⟩) (by show p41 ≠ p48; have := Lp48_p5.out; omega) (.int .u64 h)
              have F60' : ((V47.setCell ⟨p48, 0, none⟩ (.int .u64 l)).setCell ⟨p48, 1, none⟩ (.int .u64 h)).heap[p48]? = some (.cells #[.int .u64 l, .int .u64 h] 93 (0, 0)) := by have P := blk_set (blk_set F53.out 0 (.int .u64 l)) 1 (.int .u64 h); simpa using P
              have HB61' := bset (bset HB54.out Gp48.out 0 (.int .u64 l)) Gp48.out 1 (.int .u64 h)
              obtain ⟨V55, hV55⟩ : ∃ V, V = ((V47.setCell ⟨p48, 0, none⟩ (.int .u64 l)).setCell ⟨p48, 1, none⟩ (.int .u64 h)) := ⟨_, rfl⟩
              rw [← hV55]
              rw [← hV55] at F56'
              have F56 := Aside0.mk F56'
              clear F56'
              rw [← hV55] at F57'
              have F57 := Aside0.mk F57'
              clear F57'
              rw [← hV55] at F58'
              have F58 := Aside0.mk F58'
              clear F58'
              rw [← hV55] at F59'
              have F59 := Aside0.mk F59'
              clear F59'
              rw [← hV55] at F60'
              have F60 := Aside0.mk F60'
              clear F60'
              rw [← hV55] at HB61'
              have HB61 := Aside0.mk HB61'
              clear HB61'
              clear hV55
              refine hK.out _ _ (KA.out _ F56.out F57.out) (fun hHeld2 => ?_)
              clear hK K hHeld
              have hHeld := hHeld2
              clear hHeld2
              (try simp only [Act.put, g4, g5, g6])
              refine wpAnyH_ready (rs := [7]) (by kernel_rfl) (by simp) ?_
              refine AllReadyH.cons (o := ?ob10) ?hb10 (fun K hK => ?sb10) ?mb10
              case hb10 => simp only [g1, g2, g3]; rfl
              case sb10 =>
                have fz0 := blk_frozen F59.out 0
                have fz1 := blk_frozen F59.out 1
                have y0 := (blk_cell F59.out 0).trans rfl
                have y1 := (blk_cell F59.out 1).trans rfl
                go_simp
                clear fz0 fz1 y0 y1
                have F63' := blk_far (blk_far F56.out (p := ⟨p41, 0, none⟩) (by have := Lp41_a.out; show _ ≠ p41; omega) (.int .u64 l2)) (p := ⟨p41, 1, none⟩) (by have := Lp41_a.out; show _ ≠ p41; omega) (.int .u64 h2)
                have F64' := blk_far (blk_far F57.out (p := ⟨p41, 0, none⟩) (by have := Lp41_b.out; show _ ≠ p41; omega) (.int .u64 l2)) (p := ⟨p41, 1, none⟩) (by have := Lp41_b.out; show _ ≠ p41; omega) (.int .u64 h2)
                have F65' := blk_far (blk_far F58.out (p := ⟨p41, 0, none⟩) (by have := Lp41_c.out; show _ ≠ p41; omega) (.int .u64 l2)) (p := ⟨p41, 1, none⟩) (by have := Lp41_c.out; show _ ≠ p41; omega) (.int .u64 h2)
                have F66' : ((V55.setCell ⟨p41, 0, none⟩ (.int .u64 l2)).setCell ⟨p41, 1, none⟩ (.int .u64 h2)).heap[p41]? = some (.cells #[.int .u64 l2, .int .u64 h2] 93 (0, 0)) := by have P := blk_set (blk_set F59.out 0 (.int .u64 l2)) 1 (.int .u64 h2); simpa using P
                have F67' := blk_far (blk_far F60.out (p := ⟨p41, 0, none⟩) (by show p48 ≠ p41; have := Lp48_p5.out; omega) (.int .u64 l2)) (p := ⟨p41, 1, none⟩) (by show p48 ≠ p41; have := Lp48_p5.out; omega) (.int .u64 h2)
                have HB68' := bset (bset HB61.out Gp41.out 0 (.int .u64 l2)) Gp41.out 1 (.int .u64 h2)
                obtain ⟨V62, hV62⟩ : ∃ V, V = ((V55.setCell ⟨p41, 0, none⟩ (.int .u64 l2)).setCell ⟨p41, 1, none⟩ (.int .u64 h2)) := ⟨_, rfl⟩
                rw [← hV62]
                rw [← hV62] at F63'
                have F63 := Aside0.mk F63'
                clear F63'
                rw [← hV62] at F64'
                have F64 := Aside0.mk F64'
                clear F64'
                rw [← hV62] at F65'
                have F65 := Aside0.mk F65'
                clear F65'
                rw [← hV62] at F66'
                have F66 := Aside0.mk F66'
                clear F66'
                rw [← hV62] at F67'
                have F67 := Aside0.mk F67'
                clear F67'
                rw [← hV62] at HB68'
                have HB68 := Aside0.mk HB68'
                clear HB68'
                clear hV62
                refine hK.out _ _ (KA.out _ F63.out F64.out) (fun hHeld2 => ?_)
                clear hK K hHeld
                have hHeld := hHeld2
                clear hHeld2
                (try simp only [Act.put, g4, g5, g6])
                refine wpAnyH_done (by kernel_rfl) ?_ _
                go_wp2
                go_meet
                case rel => exact ⟨p48, p41, rfl, rfl, (by have := Lp48_p5.out; omega), (by have := Lp48_c.out; omega), (by have := Lp41_c.out; omega), F65.out, F67.out, F66.out, HB68.out⟩
              exact AllReadyH.nil
            exact AllReadyH.nil
          exact AllReadyH.nil
        exact AllReadyH.nil
      refine AllReadyH.cons (o := ?ob11) ?hb11 (fun K hK => ?sb11) ?mb11
      case hb11 => simp only [g1, g2, g3]; rfl
      case sb11 =>
        go_simp
        have F71' := (heap_alloc_old (.cells #[.int .u64 0, .int .u64 0] 93) (blk_lt F2.out)).trans F2.out
        have F72' := (heap_alloc_old (.cells #[.int .u64 0, .int .u64 0] 93) (blk_lt F3.out)).trans F3.out
        have F73' := (heap_alloc_old (.cells #[.int .u64 0, .int .u64 0] 93) (blk_lt F4.out)).trans F4.out
        have F74' := heap_alloc_new w1 (.cells #[.int .u64 0, .int .u64 0] 93)
        have HB75' := HB5.out.alloc HB5.out.size (.cells #[.int .u64 0, .int .u64 0] 93)
        obtain ⟨V69, hV69⟩ : ∃ V, V = w1.alloc (.cells #[.int .u64 0, .int .u64 0] 93) := ⟨_, rfl⟩
        have Gp70 := Aside0.mk (show w.heap.size ≤ w1.heap.size from HB5.out.size)
        have Lp70_a := Aside0.mk (blk_lt F2.out)
        have Lp70_b := Aside0.mk (blk_lt F3.out)
        have Lp70_c := Aside0.mk (blk_lt F4.out)
        obtain ⟨p70, hp70⟩ : ∃ p, p = w1.heap.size := ⟨_, rfl⟩
        rw [← hp70, ← hV69]
        rw [← hp70, ← hV69] at F74'
        rw [← hp70] at Gp70 Lp70_a Lp70_b Lp70_c
        rw [← hV69] at F71'
        have F71 := Aside0.mk F71'
        rw [← hV69] at F72'
        have F72 := Aside0.mk F72'
        rw [← hV69] at F73'
        have F73 := Aside0.mk F73'
        have F74 := Aside0.mk F74'
        rw [← hV69] at HB75'
        have HB75 := Aside0.mk HB75'
        clear hV69 hp70 F71' F72' F73' F74' HB75'
        refine hK.out _ _ (KA.out _ F71.out F72.out) (fun hHeld2 => ?_)
        clear hK K hHeld
        have hHeld := hHeld2
        clear hHeld2
        (try simp only [Act.put, g4, g5, g6])
        refine wpAnyH_ready (rs := [3, 5]) (by kernel_rfl) (by simp) ?_
        refine AllReadyH.cons (o := ?ob12) ?hb12 (fun K hK => ?sb12) ?mb12
        case hb12 => simp only [g1, g2, g3]; rfl
        case sb12 =>
          go_simp
          refine (words_calls h2 l2 _).mono ?_
          rintro e w76 ⟨rfl, hb⟩
          have F77 := Aside0.mk ((hb.block _ (blk_lt F71.out)).trans F71.out)
          have F78 := Aside0.mk ((hb.block _ (blk_lt F72.out)).trans F72.out)
          have F79 := Aside0.mk ((hb.block _ (blk_lt F73.out)).trans F73.out)
          have F80 := Aside0.mk ((hb.block _ (blk_lt F74.out)).trans F74.out)
          have HB81 := Aside0.mk (below_then HB75.out HB75.out.size hb)
          clear hb
          refine hK.out _ _ (KA.out _ F77.out F78.out) (fun hHeld2 => ?_)
          clear hK K hHeld
          have hHeld := hHeld2
          clear hHeld2
          (try simp only [Act.put, g4, g5, g6])
          refine wpAnyH_ready (rs := [5]) (by kernel_rfl) (by simp) ?_
          refine AllReadyH.cons (o := ?ob13) ?hb13 (fun K hK => ?sb13) ?mb13
          case hb13 => simp only [g1, g2, g3]; rfl
          case sb13 =>
            go_simp
            have F84' := (heap_alloc_old (.cells #[.int .u64 0, .int .u64 0] 93) (blk_lt F77.out)).trans F77.out
            have F85' := (heap_alloc_old (.cells #[.int .u64 0, .int .u64 0] 93) (blk_lt F78.out)).trans F78.out
            have F86' := (heap_alloc_old (.cells #[.int .u64 0, .int .u64 0] 93) (blk_lt F79.out)).trans F79.out
            have F87' := (heap_alloc_old (.cells #[.int .u64 0, .int .u64 0] 93) (blk_lt F80.out)).trans F80.out
            have F88' := heap_alloc_new w76 (.cells #[.int .u64 0, .int .u64 0] 93)
            have HB89' := HB81.out.alloc HB81.out.size (.cells #[.int .u64 0, .int .u64 0] 93)
            obtain ⟨V82, hV82⟩ : ∃ V, V = w76.alloc (.cells #[.int .u64 0, .int .u64 0] 93) := ⟨_, rfl⟩
            have Gp83 := Aside0.mk (show w.heap.size ≤ w76.heap.size from HB81.out.size)
            have Lp83_a := Aside0.mk (blk_lt F77.out)
            have Lp83_b := Aside0.mk (blk_lt F78.out)
            have Lp83_c := Aside0.mk (blk_lt F79.out)
            have Lp83_p4 := Aside0.mk (blk_lt F80.out)
            obtain ⟨p83, hp83⟩ : ∃ p, p = w76.heap.size := ⟨_, rfl⟩
            rw [← hp83, ← hV82]
            rw [← hp83, ← hV82] at F88'
            rw [← hp83] at Gp83 Lp83_a Lp83_b Lp83_c Lp83_p4
            rw [← hV82] at F84'
            have F84 := Aside0.mk F84'
            rw [← hV82] at F85'
            have F85 := Aside0.mk F85'
            rw [← hV82] at F86'
            have F86 := Aside0.mk F86'
            rw [← hV82] at F87'
            have F87 := Aside0.mk F87'
            have F88 := Aside0.mk F88'
            rw [← hV82] at HB89'
            have HB89 := Aside0.mk HB89'
            clear hV82 hp83 F84' F85' F86' F87' F88' HB89'
            refine hK.out _ _ (KA.out _ F84.out F85.out) (fun hHeld2 => ?_)
            clear hK K hHeld
            have hHeld := hHeld2
            clear hHeld2
            (try simp only [Act.put, g4, g5, g6])
            refine wpAnyH_ready (rs := [6]) (by kernel_rfl) (by simp) ?_
            refine AllReadyH.cons (o := ?ob14) ?hb14 (fun K hK => ?sb14) ?mb14
            case hb14 => simp only [g1, g2, g3]; rfl
            case sb14 =>
              have fz0 := blk_frozen F87.out 0
              have fz1 := blk_frozen F87.out 1
              have y0 := (blk_cell F87.out 0).trans rfl
              have y1 := (blk_cell F87.out 1).trans rfl
              go_simp
              clear fz0 fz1 y0 y1
              have F91' := blk_far (blk_far F84.out (p := ⟨p70, 0, none⟩) (by have := Lp70_a.out; show _ ≠ p70; omega) (.int .u64 l)) (p := ⟨p70, 1, none⟩) (by have := Lp70_a.out; show _ ≠ p70; omega) (.int .u64 h)
              have F92' := blk_far (blk_far F85.out (p := ⟨p70, 0, none⟩) (by have := Lp70_b.out; show _ ≠ p70; omega) (.int .u64 l)) (p := ⟨p70, 1, none⟩) (by have := Lp70_b.out; show _ ≠ p70; omega) (.int .u64 h)
              have F93' := blk_far (blk_far F86.out (p := ⟨p70, 0, none⟩) (by have := Lp70_c.out; show _ ≠ p70; omega) (.int .u64 l)) (p := ⟨p70, 1, none⟩) (by have := Lp70_c.out; show _ ≠ p70; omega) (.int .u64 h)
              have F94' : ((V82.setCell ⟨p70, 0, none⟩ (.int .u64 l)).setCell ⟨p70, 1, none⟩ (.int .u64 h)).heap[p70]? = some (.cells #[.int .u64 l, .int .u64 h] 93 (0, 0)) := by have P := blk_set (blk_set F87.out 0 (.int .u64 l)) 1 (.int .u64 h); simpa using P
              have F95' := blk_far (blk_far F88.out (p := ⟨p70, 0, none⟩) (by show p83 ≠ p70; have := Lp83_p4.out; omega) (.int .u64 l)) (p := ⟨p70, 1, none⟩) (by show p83 ≠ p70; have := Lp83_p4.out; omega) (.int .u64 h)
              have HB96' := bset (bset HB89.out Gp70.out 0 (.int .u64 l)) Gp70.out 1 (.int .u64 h)
              obtain ⟨V90, hV90⟩ : ∃ V, V = ((V82.setCell ⟨p70, 0, none⟩ (.int .u64 l)).setCell ⟨p70, 1, none⟩ (.int .u64 h)) := ⟨_, rfl⟩
              rw [← hV90]
              rw [← hV90] at F91'
              have F91 := Aside0.mk F91'
              clear F91'
              rw [← hV90] at F92'
              have F92 := Aside0.mk F92'
              clear F92'
              rw [← hV90] at F93'
              have F93 := Aside0.mk F93'
              clear F93'
              rw [← hV90] at F94'
              have F94 := Aside0.mk F94'
              clear F94'
              rw [← hV90] at F95'
              have F95 := Aside0.mk F95'
              clear F95'
              rw [← hV90] at HB96'
              have HB96 := Aside0.mk HB96'
              clear HB96'
              clear hV90
              refine hK.out _ _ (KA.out _ F91.out F92.out) (fun hHeld2 => ?_)
              clear hK K hHeld
              have hHeld := hHeld2
              clear hHeld2
              (try simp only [Act.put, g4, g5, g6])
              refine wpAnyH_ready (rs := [7]) (by kernel_rfl) (by simp) ?_
              refine AllReadyH.cons (o := ?ob15) ?hb15 (fun K hK => ?sb15) ?mb15
              case hb15 => simp only [g1, g2, g3]; rfl
              case sb15 =>
                have fz0 := blk_frozen F95.out 0
                have fz1 := blk_frozen F95.out 1
                have y0 := (blk_cell F95.out 0).trans rfl
                have y1 := (blk_cell F95.out 1).trans rfl
                go_simp
                clear fz0 fz1 y0 y1
                have F98' := blk_far (blk_far F91.out (p := ⟨p83, 0, none⟩) (by have := Lp83_a.out; show _ ≠ p83; omega) (.int .u64 l2)) (p := ⟨p83, 1, none⟩) (by have := Lp83_a.out; show _ ≠ p83; omega) (.int .u64 h2)
                have F99' := blk_far (blk_far F92.out (p := ⟨p83, 0, none⟩) (by have := Lp83_b.out; show _ ≠ p83; omega) (.int .u64 l2)) (p := ⟨p83, 1, none⟩) (by have := Lp83_b.out; show _ ≠ p83; omega) (.int .u64 h2)
                have F100' := blk_far (blk_far F93.out (p := ⟨p83, 0, none⟩) (by have := Lp83_c.out; show _ ≠ p83; omega) (.int .u64 l2)) (p := ⟨p83, 1, none⟩) (by have := Lp83_c.out; show _ ≠ p83; omega) (.int .u64 h2)
                have F101' := blk_far (blk_far F94.out (p := ⟨p83, 0, none⟩) (by show p70 ≠ p83; have := Lp83_p4.out; omega) (.int .u64 l2)) (p := ⟨p83, 1, none⟩) (by show p70 ≠ p83; have := Lp83_p4.out; omega) (.int .u64 h2)
                have F102' : ((V90.setCell ⟨p83, 0, none⟩ (.int .u64 l2)).setCell ⟨p83, 1, none⟩ (.int .u64 h2)).heap[p83]? = some (.cells #[.int .u64 l2, .int .u64 h2] 93 (0, 0)) := by have P := blk_set (blk_set F95.out 0 (.int .u64 l2)) 1 (.int .u64 h2); simpa using P
                have HB103' := bset (bset HB96.out Gp83.out 0 (.int .u64 l2)) Gp83.out 1 (.int .u64 h2)
                obtain ⟨V97, hV97⟩ : ∃ V, V = ((V90.setCell ⟨p83, 0, none⟩ (.int .u64 l2)).setCell ⟨p83, 1, none⟩ (.int .u64 h2)) := ⟨_, rfl⟩
                rw [← hV97]
                rw [← hV97] at F98'
                have F98 := Aside0.mk F98'
                clear F98'
                rw [← hV97] at F99'
                have F99 := Aside0.mk F99'
                clear F99'
                rw [← hV97] at F100'
                have F100 := Aside0.mk F100'
                clear F100'
                rw [← hV97] at F101'
                have F101 := Aside0.mk F101'
                clear F101'
                rw [← hV97] at F102'
                have F102 := Aside0.mk F102'
                clear F102'
                rw [← hV97] at HB103'
                have HB103 := Aside0.mk HB103'
                clear HB103'
                clear hV97
                refine hK.out _ _ (KA.out _ F98.out F99.out) (fun hHeld2 => ?_)
                clear hK K hHeld
                have hHeld := hHeld2
                clear hHeld2
                (try simp only [Act.put, g4, g5, g6])
                refine wpAnyH_done (by kernel_rfl) ?_ _
                go_wp2
                go_meet
                case rel => exact ⟨p70, p83, rfl, rfl, (by have := Lp83_p4.out; omega), (by have := Lp70_c.out; omega), (by have := Lp83_c.out; omega), F100.out, F101.out, F102.out, HB103.out⟩
              exact AllReadyH.nil
            exact AllReadyH.nil
          exact AllReadyH.nil
        refine AllReadyH.cons (o := ?ob16) ?hb16 (fun K hK => ?sb16) ?mb16
        case hb16 => simp only [g1, g2, g3]; rfl
        case sb16 =>
          go_simp
          have F106' := (heap_alloc_old (.cells #[.int .u64 0, .int .u64 0] 93) (blk_lt F71.out)).trans F71.out
          have F107' := (heap_alloc_old (.cells #[.int .u64 0, .int .u64 0] 93) (blk_lt F72.out)).trans F72.out
          have F108' := (heap_alloc_old (.cells #[.int .u64 0, .int .u64 0] 93) (blk_lt F73.out)).trans F73.out
          have F109' := (heap_alloc_old (.cells #[.int .u64 0, .int .u64 0] 93) (blk_lt F74.out)).trans F74.out
          have F110' := heap_alloc_new V69 (.cells #[.int .u64 0, .int .u64 0] 93)
          have HB111' := HB75.out.alloc HB75.out.size (.cells #[.int .u64 0, .int .u64 0] 93)
          obtain ⟨V104, hV104⟩ : ∃ V, V = V69.alloc (.cells #[.int .u64 0, .int .u64 0] 93) := ⟨_, rfl⟩
          have Gp105 := Aside0.mk (show w.heap.size ≤ V69.heap.size from HB75.out.size)
          have Lp105_a := Aside0.mk (blk_lt F71.out)
          have Lp105_b := Aside0.mk (blk_lt F72.out)
          have Lp105_c := Aside0.mk (blk_lt F73.out)
          have Lp105_p4 := Aside0.mk (blk_lt F74.out)
          obtain ⟨p105, hp105⟩ : ∃ p, p = V69.heap.size := ⟨_, rfl⟩
          rw [← hp105, ← hV104]
          rw [← hp105, ← hV104] at F110'
          rw [← hp105] at Gp105 Lp105_a Lp105_b Lp105_c Lp105_p4
          rw [← hV104] at F106'
          have F106 := Aside0.mk F106'
          rw [← hV104] at F107'
          have F107 := Aside0.mk F107'
          rw [← hV104] at F108'
          have F108 := Aside0.mk F108'
          rw [← hV104] at F109'
          have F109 := Aside0.mk F109'
          have F110 := Aside0.mk F110'
          rw [← hV104] at HB111'
          have HB111 := Aside0.mk HB111'
          clear hV104 hp105 F106' F107' F108' F109' F110' HB111'
          refine hK.out _ _ (KA.out _ F106.out F107.out) (fun hHeld2 => ?_)
          clear hK K hHeld
          have hHeld := hHeld2
          clear hHeld2
          (try simp only [Act.put, g4, g5, g6])
          refine wpAnyH_ready (rs := [3]) (by kernel_rfl) (by simp) ?_
          refine AllReadyH.cons (o := ?ob17) ?hb17 (fun K hK => ?sb17) ?mb17
          case hb17 => simp only [g1, g2, g3]; rfl
          case sb17 =>
            go_simp
            refine (words_calls h2 l2 _).mono ?_
            rintro e w112 ⟨rfl, hb⟩
            have F113 := Aside0.mk ((hb.block _ (blk_lt F106.out)).trans F106.out)
            have F114 := Aside0.mk ((hb.block _ (blk_lt F107.out)).trans F107.out)
            have F115 := Aside0.mk ((hb.block _ (blk_lt F108.out)).trans F108.out)
            have F116 := Aside0.mk ((hb.block _ (blk_lt F109.out)).trans F109.out)
            have F117 := Aside0.mk ((hb.block _ (blk_lt F110.out)).trans F110.out)
            have HB118 := Aside0.mk (below_then HB111.out HB111.out.size hb)
            clear hb
            refine hK.out _ _ (KA.out _ F113.out F114.out) (fun hHeld2 => ?_)
            clear hK K hHeld
            have hHeld := hHeld2
            clear hHeld2
            (try simp only [Act.put, g4, g5, g6])
            refine wpAnyH_ready (rs := [6]) (by kernel_rfl) (by simp) ?_
            refine AllReadyH.cons (o := ?ob18) ?hb18 (fun K hK => ?sb18) ?mb18
            case hb18 => simp only [g1, g2, g3]; rfl
            case sb18 =>
              have fz0 := blk_frozen F116.out 0
              have fz1 := blk_frozen F116.out 1
              have y0 := (blk_cell F116.out 0).trans rfl
              have y1 := (blk_cell F116.out 1).trans rfl
              go_simp
              clear fz0 fz1 y0 y1
              have F120' := blk_far (blk_far F113.out (p := ⟨p70, 0, none⟩) (by have := Lp70_a.out; show _ ≠ p70; omega) (.int .u64 l)) (p := ⟨p70, 1, none⟩) (by have := Lp70_a.out; show _ ≠ p70; omega) (.int .u64 h)
              have F121' := blk_far (blk_far F114.out (p := ⟨p70, 0, none⟩) (by have := Lp70_b.out; show _ ≠ p70; omega) (.int .u64 l)) (p := ⟨p70, 1, none⟩) (by have := Lp70_b.out; show _ ≠ p70; omega) (.int .u64 h)
              have F122' := blk_far (blk_far F115.out (p := ⟨p70, 0, none⟩) (by have := Lp70_c.out; show _ ≠ p70; omega) (.int .u64 l)) (p := ⟨p70, 1, none⟩) (by have := Lp70_c.out; show _ ≠ p70; omega) (.int .u64 h)
              have F123' : ((w112.setCell ⟨p70, 0, none⟩ (.int .u64 l)).setCell ⟨p70, 1, none⟩ (.int .u64 h)).heap[p70]? = some (.cells #[.int .u64 l, .int .u64 h] 93 (0, 0)) := by have P := blk_set (blk_set F116.out 0 (.int .u64 l)) 1 (.int .u64 h); simpa using P
              have F124' := blk_far (blk_far F117.out (p := ⟨p70, 0, none⟩) (by show p105 ≠ p70; have := Lp105_p4.out; omega) (.int .u64 l)) (p := ⟨p70, 1, none⟩) (by show p105 ≠ p70; have := Lp105_p4.out; omega) (.int .u64 h)
              have HB125' := bset (bset HB118.out Gp70.out 0 (.int .u64 l)) Gp70.out 1 (.int .u64 h)
              obtain ⟨V119, hV119⟩ : ∃ V, V = ((w112.setCell ⟨p70, 0, none⟩ (.int .u64 l)).setCell ⟨p70, 1, none⟩ (.int .u64 h)) := ⟨_, rfl⟩
              rw [← hV119]
              rw [← hV119] at F120'
              have F120 := Aside0.mk F120'
              clear F120'
              rw [← hV119] at F121'
              have F121 := Aside0.mk F121'
              clear F121'
              rw [← hV119] at F122'
              have F122 := Aside0.mk F122'
              clear F122'
              rw [← hV119] at F123'
              have F123 := Aside0.mk F123'
              clear F123'
              rw [← hV119] at F124'
              have F124 := Aside0.mk F124'
              clear F124'
              rw [← hV119] at HB125'
              have HB125 := Aside0.mk HB125'
              clear HB125'
              clear hV119
              refine hK.out _ _ (KA.out _ F120.out F121.out) (fun hHeld2 => ?_)
              clear hK K hHeld
              have hHeld := hHeld2
              clear hHeld2
              (try simp only [Act.put, g4, g5, g6])
              refine wpAnyH_ready (rs := [7]) (by kernel_rfl) (by simp) ?_
              refine AllReadyH.cons (o := ?ob19) ?hb19 (fun K hK => ?sb19) ?mb19
              case hb19 => simp only [g1, g2, g3]; rfl
              case sb19 =>
                have fz0 := blk_frozen F124.out 0
                have fz1 := blk_frozen F124.out 1
                have y0 := (blk_cell F124.out 0).trans rfl
                have y1 := (blk_cell F124.out 1).trans rfl
                go_simp
                clear fz0 fz1 y0 y1
                have F127' := blk_far (blk_far F120.out (p := ⟨p105, 0, none⟩) (by have := Lp105_a.out; show _ ≠ p105; omega) (.int .u64 l2)) (p := ⟨p105, 1, none⟩) (by have := Lp105_a.out; show _ ≠ p105; omega) (.int .u64 h2)
                have F128' := blk_far (blk_far F121.out (p := ⟨p105, 0, none⟩) (by have := Lp105_b.out; show _ ≠ p105; omega) (.int .u64 l2)) (p := ⟨p105, 1, none⟩) (by have := Lp105_b.out; show _ ≠ p105; omega) (.int .u64 h2)
                have F129' := blk_far (blk_far F122.out (p := ⟨p105, 0, none⟩) (by have := Lp105_c.out; show _ ≠ p105; omega) (.int .u64 l2)) (p := ⟨p105, 1, none⟩) (by have := Lp105_c.out; show _ ≠ p105; omega) (.int .u64 h2)
                have F130' := blk_far (blk_far F123.out (p := ⟨p105, 0, none⟩) (by show p70 ≠ p105; have := Lp105_p4.out; omega) (.int .u64 l2)) (p := ⟨p105, 1, none⟩) (by show p70 ≠ p105; have := Lp105_p4.out; omega) (.int .u64 h2)
                have F131' : ((V119.setCell ⟨p105, 0, none⟩ (.int .u64 l2)).setCell ⟨p105, 1, none⟩ (.int .u64 h2)).heap[p105]? = some (.cells #[.int .u64 l2, .int .u64 h2] 93 (0, 0)) := by have P := blk_set (blk_set F124.out 0 (.int .u64 l2)) 1 (.int .u64 h2); simpa using P
                have HB132' := bset (bset HB125.out Gp105.out 0 (.int .u64 l2)) Gp105.out 1 (.int .u64 h2)
                obtain ⟨V126, hV126⟩ : ∃ V, V = ((V119.setCell ⟨p105, 0, none⟩ (.int .u64 l2)).setCell ⟨p105, 1, none⟩ (.int .u64 h2)) := ⟨_, rfl⟩
                rw [← hV126]
                rw [← hV126] at F127'
                have F127 := Aside0.mk F127'
                clear F127'
                rw [← hV126] at F128'
                have F128 := Aside0.mk F128'
                clear F128'
                rw [← hV126] at F129'
                have F129 := Aside0.mk F129'
                clear F129'
                rw [← hV126] at F130'
                have F130 := Aside0.mk F130'
                clear F130'
                rw [← hV126] at F131'
                have F131 := Aside0.mk F131'
                clear F131'
                rw [← hV126] at HB132'
                have HB132 := Aside0.mk HB132'
                clear HB132'
                clear hV126
                refine hK.out _ _ (KA.out _ F127.out F128.out) (fun hHeld2 => ?_)
                clear hK K hHeld
                have hHeld := hHeld2
                clear hHeld2
                (try simp only [Act.put, g4, g5, g6])
                refine wpAnyH_done (by kernel_rfl) ?_ _
                go_wp2
                go_meet
                case rel => exact ⟨p70, p105, rfl, rfl, (by have := Lp105_p4.out; omega), (by have := Lp70_c.out; omega), (by have := Lp105_c.out; omega), F129.out, F130.out, F131.out, HB132.out⟩
              exact AllReadyH.nil
            exact AllReadyH.nil
          exact AllReadyH.nil
        exact AllReadyH.nil
      refine AllReadyH.cons (o := ?ob20) ?hb20 (fun K hK => ?sb20) ?mb20
      case hb20 => simp only [g1, g2, g3]; rfl
      case sb20 =>
        go_simp
        have F135' := (heap_alloc_old (.cells #[.int .u64 0, .int .u64 0] 93) (blk_lt F2.out)).trans F2.out
        have F136' := (heap_alloc_old (.cells #[.int .u64 0, .int .u64 0] 93) (blk_lt F3.out)).trans F3.out
        have F137' := (heap_alloc_old (.cells #[.int .u64 0, .int .u64 0] 93) (blk_lt F4.out)).trans F4.out
        have F138' := heap_alloc_new w1 (.cells #[.int .u64 0, .int .u64 0] 93)
        have HB139' := HB5.out.alloc HB5.out.size (.cells #[.int .u64 0, .int .u64 0] 93)
        obtain ⟨V133, hV133⟩ : ∃ V, V = w1.alloc (.cells #[.int .u64 0, .int .u64 0] 93) := ⟨_, rfl⟩
        have Gp134 := Aside0.mk (show w.heap.size ≤ w1.heap.size from HB5.out.size)
        have Lp134_a := Aside0.mk (blk_lt F2.out)
        have Lp134_b := Aside0.mk (blk_lt F3.out)
        have Lp134_c := Aside0.mk (blk_lt F4.out)
        obtain ⟨p134, hp134⟩ : ∃ p, p = w1.heap.size := ⟨_, rfl⟩
        rw [← hp134, ← hV133]
        rw [← hp134, ← hV133] at F138'
        rw [← hp134] at Gp134 Lp134_a Lp134_b Lp134_c
        rw [← hV133] at F135'
        have F135 := Aside0.mk F135'
        rw [← hV133] at F136'
        have F136 := Aside0.mk F136'
        rw [← hV133] at F137'
        have F137 := Aside0.mk F137'
        have F138 := Aside0.mk F138'
        rw [← hV133] at HB139'
        have HB139 := Aside0.mk HB139'
        clear hV133 hp134 F135' F136' F137' F138' HB139'
        refine hK.out _ _ (KA.out _ F135.out F136.out) (fun hHeld2 => ?_)
        clear hK K hHeld
        have hHeld := hHeld2
        clear hHeld2
        (try simp only [Act.put, g4, g5, g6])
        refine wpAnyH_ready (rs := [3, 4]) (by kernel_rfl) (by simp) ?_
        refine AllReadyH.cons (o := ?ob21) ?hb21 (fun K hK => ?sb21) ?mb21
        case hb21 => simp only [g1, g2, g3]; rfl
        case sb21 =>
          go_simp
          refine (words_calls h2 l2 _).mono ?_
          rintro e w140 ⟨rfl, hb⟩
          have F141 := Aside0.mk ((hb.block _ (blk_lt F135.out)).trans F135.out)
          have F142 := Aside0.mk ((hb.block _ (blk_lt F136.out)).trans F136.out)
          have F143 := Aside0.mk ((hb.block _ (blk_lt F137.out)).trans F137.out)
          have F144 := Aside0.mk ((hb.block _ (blk_lt F138.out)).trans F138.out)
          have HB145 := Aside0.mk (below_then HB139.out HB139.out.size hb)
          clear hb
          refine hK.out _ _ (KA.out _ F141.out F142.out) (fun hHeld2 => ?_)
          clear hK K hHeld
          have hHeld := hHeld2
          clear hHeld2
          (try simp only [Act.put, g4, g5, g6])
          refine wpAnyH_ready (rs := [4]) (by kernel_rfl) (by simp) ?_
          refine AllReadyH.cons (o := ?ob22) ?hb22 (fun K hK => ?sb22) ?mb22
          case hb22 => simp only [g1, g2, g3]; rfl
          case sb22 =>
            go_simp
            have F148' := (heap_alloc_old (.cells #[.int .u64 0, .int .u64 0] 93) (blk_lt F141.out)).trans F141.out
            have F149' := (heap_alloc_old (.cells #[.int .u64 0, .int .u64 0] 93) (blk_lt F142.out)).trans F142.out
            have F150' := (heap_alloc_old (.cells #[.int .u64 0, .int .u64 0] 93) (blk_lt F143.out)).trans F143.out
            have F151' := (heap_alloc_old (.cells #[.int .u64 0, .int .u64 0] 93) (blk_lt F144.out)).trans F144.out
            have F152' := heap_alloc_new w140 (.cells #[.int .u64 0, .int .u64 0] 93)
            have HB153' := HB145.out.alloc HB145.out.size (.cells #[.int .u64 0, .int .u64 0] 93)
            obtain ⟨V146, hV146⟩ : ∃ V, V = w140.alloc (.cells #[.int .u64 0, .int .u64 0] 93) := ⟨_, rfl⟩
            have Gp147 := Aside0.mk (show w.heap.size ≤ w140.heap.size from HB145.out.size)
            have Lp147_a := Aside0.mk (blk_lt F141.out)
            have Lp147_b := Aside0.mk (blk_lt F142.out)
            have Lp147_c := Aside0.mk (blk_lt F143.out)
            have Lp147_p5 := Aside0.mk (blk_lt F144.out)
            obtain ⟨p147, hp147⟩ : ∃ p, p = w140.heap.size := ⟨_, rfl⟩
            rw [← hp147, ← hV146]
            rw [← hp147, ← hV146] at F152'
            rw [← hp147] at Gp147 Lp147_a Lp147_b Lp147_c Lp147_p5
            rw [← hV146] at F148'
            have F148 := Aside0.mk F148'
            rw [← hV146] at F149'
            have F149 := Aside0.mk F149'
            rw [← hV146] at F150'
            have F150 := Aside0.mk F150'
            rw [← hV146] at F151'
            have F151 := Aside0.mk F151'
            have F152 := Aside0.mk F152'
            rw [← hV146] at HB153'
            have HB153 := Aside0.mk HB153'
            clear hV146 hp147 F148' F149' F150' F151' F152' HB153'
            refine hK.out _ _ (KA.out _ F148.out F149.out) (fun hHeld2 => ?_)
            clear hK K hHeld
            have hHeld := hHeld2
            clear hHeld2
            (try simp only [Act.put, g4, g5, g6])
            refine wpAnyH_ready (rs := [6]) (by kernel_rfl) (by simp) ?_
            refine AllReadyH.cons (o := ?ob23) ?hb23 (fun K hK => ?sb23) ?mb23
            case hb23 => simp only [g1, g2, g3]; rfl
            case sb23 =>
              have fz0 := blk_frozen F152.out 0
              have fz1 := blk_frozen F152.out 1
              have y0 := (blk_cell F152.out 0).trans rfl
              have y1 := (blk_cell F152.out 1).trans rfl
              go_simp
              clear fz0 fz1 y0 y1
              have F155' := blk_far (blk_far F148.out (p := ⟨p147, 0, none⟩) (by have := Lp147_a.out; show _ ≠ p147; omega) (.int .u64 l)) (p := ⟨p147, 1, none⟩) (by have := Lp147_a.out; show _ ≠ p147; omega) (.int .u64 h)
              have F156' := blk_far (blk_far F149.out (p := ⟨p147, 0, none⟩) (by have := Lp147_b.out; show _ ≠ p147; omega) (.int .u64 l)) (p := ⟨p147, 1, none⟩) (by have := Lp147_b.out; show _ ≠ p147; omega) (.int .u64 h)
              have F157' := blk_far (blk_far F150.out (p := ⟨p147, 0, none⟩) (by have := Lp147_c.out; show _ ≠ p147; omega) (.int .u64 l)) (p := ⟨p147, 1, none⟩) (by have := Lp147_c.out; show _ ≠ p147; omega) (.int .u64 h)
              have F158' := blk_far (blk_far F151.out (p := ⟨p147, 0, none⟩) (by show p134 ≠ p147; have := Lp147_p5.out; omega) (.int .u64 l)) (p := ⟨p147, 1, none⟩) (by show p134 ≠ p147; have := Lp147_p5.out; omega) (.int .u64 h)
              have F159' : ((V146.setCell ⟨p147, 0, none⟩ (.int .u64 l)).setCell ⟨p147, 1, none⟩ (.int .u64 h)).heap[p147]? = some (.cells #[.int .u64 l, .int .u64 h] 93 (0, 0)) := by have P := blk_set (blk_set F152.out 0 (.int .u64 l)) 1 (.int .u64 h); simpa using P
              have HB160' := bset (bset HB153.out Gp147.out 0 (.int .u64 l)) Gp147.out 1 (.int .u64 h)
              obtain ⟨V154, hV154⟩ : ∃ V, V = ((V146.setCell ⟨p147, 0, none⟩ (.int .u64 l)).setCell ⟨p147, 1, none⟩ (.int .u64 h)) := ⟨_, rfl⟩
              rw [← hV154]
              rw [← hV154] at F155'
              have F155 := Aside0.mk F155'
              clear F155'
              rw [← hV154] at F156'
              have F156 := Aside0.mk F156'
              clear F156'
              rw [← hV154] at F157'
              have F157 := Aside0.mk F157'
              clear F157'
              rw [← hV154] at F158'
              have F158 := Aside0.mk F158'
              clear F158'
              rw [← hV154] at F159'
              have F159 := Aside0.mk F159'
              clear F159'
              rw [← hV154] at HB160'
              have HB160 := Aside0.mk HB160'
              clear HB160'
              clear hV154
              refine hK.out _ _ (KA.out _ F155.out F156.out) (fun hHeld2 => ?_)
              clear hK K hHeld
              have hHeld := hHeld2
              clear hHeld2
              (try simp only [Act.put, g4, g5, g6])
              refine wpAnyH_ready (rs := [7]) (by kernel_rfl) (by simp) ?_
              refine AllReadyH.cons (o := ?ob24) ?hb24 (fun K hK => ?sb24) ?mb24
              case hb24 => simp only [g1, g2, g3]; rfl
              case sb24 =>
                have fz0 := blk_frozen F158.out 0
                have fz1 := blk_frozen F158.out 1
                have y0 := (blk_cell F158.out 0).trans rfl
                have y1 := (blk_cell F158.out 1).trans rfl
                go_simp
                clear fz0 fz1 y0 y1
                have F162' := blk_far (blk_far F155.out (p := ⟨p134, 0, none⟩) (by have := Lp134_a.out; show _ ≠ p134; omega) (.int .u64 l2)) (p := ⟨p134, 1, none⟩) (by have := Lp134_a.out; show _ ≠ p134; omega) (.int .u64 h2)
                have F163' := blk_far (blk_far F156.out (p := ⟨p134, 0, none⟩) (by have := Lp134_b.out; show _ ≠ p134; omega) (.int .u64 l2)) (p := ⟨p134, 1, none⟩) (by have := Lp134_b.out; show _ ≠ p134; omega) (.int .u64 h2)
                have F164' := blk_far (blk_far F157.out (p := ⟨p134, 0, none⟩) (by have := Lp134_c.out; show _ ≠ p134; omega) (.int .u64 l2)) (p := ⟨p134, 1, none⟩) (by have := Lp134_c.out; show _ ≠ p134; omega) (.int .u64 h2)
                have F165' : ((V154.setCell ⟨p134, 0, none⟩ (.int .u64 l2)).setCell ⟨p134, 1, none⟩ (.int .u64 h2)).heap[p134]? = some (.cells #[.int .u64 l2, .int .u64 h2] 93 (0, 0)) := by have P := blk_set (blk_set F158.out 0 (.int .u64 l2)) 1 (.int .u64 h2); simpa using P
                have F166' := blk_far (blk_far F159.out (p := ⟨p134, 0, none⟩) (by show p147 ≠ p134; have := Lp147_p5.out; omega) (.int .u64 l2)) (p := ⟨p134, 1, none⟩) (by show p147 ≠ p134; have := Lp147_p5.out; omega) (.int .u64 h2)
                have HB167' := bset (bset HB160.out Gp134.out 0 (.int .u64 l2)) Gp134.out 1 (.int .u64 h2)
                obtain ⟨V161, hV161⟩ : ∃ V, V = ((V154.setCell ⟨p134, 0, none⟩ (.int .u64 l2)).setCell ⟨p134, 1, none⟩ (.int .u64 h2)) := ⟨_, rfl⟩
                rw [← hV161]
                rw [← hV161] at F162'
                have F162 := Aside0.mk F162'
                clear F162'
                rw [← hV161] at F163'
                have F163 := Aside0.mk F163'
                clear F163'
                rw [← hV161] at F164'
                have F164 := Aside0.mk F164'
                clear F164'
                rw [← hV161] at F165'
                have F165 := Aside0.mk F165'
                clear F165'
                rw [← hV161] at F166'
                have F166 := Aside0.mk F166'
                clear F166'
                rw [← hV161] at HB167'
                have HB167 := Aside0.mk HB167'
                clear HB167'
                clear hV161
                refine hK.out _ _ (KA.out _ F162.out F163.out) (fun hHeld2 => ?_)
                clear hK K hHeld
                have hHeld := hHeld2
                clear hHeld2
                (try simp only [Act.put, g4, g5, g6])
                refine wpAnyH_done (by kernel_rfl) ?_ _
                go_wp2
                go_meet
                case rel => exact ⟨p147, p134, rfl, rfl, (by have := Lp147_p5.out; omega), (by have := Lp147_c.out; omega), (by have := Lp134_c.out; omega), F164.out, F166.out, F165.out, HB167.out⟩
              exact AllReadyH.nil
            exact AllReadyH.nil
          exact AllReadyH.nil
        refine AllReadyH.cons (o := ?ob25) ?hb25 (fun K hK => ?sb25) ?mb25
        case hb25 => simp only [g1, g2, g3]; rfl
        case sb25 =>
          go_simp
          have F170' := (heap_alloc_old (.cells #[.int .u64 0, .int .u64 0] 93) (blk_lt F135.out)).trans F135.out
          have F171' := (heap_alloc_old (.cells #[.int .u64 0, .int .u64 0] 93) (blk_lt F136.out)).trans F136.out
          have F172' := (heap_alloc_old (.cells #[.int .u64 0, .int .u64 0] 93) (blk_lt F137.out)).trans F137.out
          have F173' := (heap_alloc_old (.cells #[.int .u64 0, .int .u64 0] 93) (blk_lt F138.out)).trans F138.out
          have F174' := heap_alloc_new V133 (.cells #[.int .u64 0, .int .u64 0] 93)
          have HB175' := HB139.out.alloc HB139.out.size (.cells #[.int .u64 0, .int .u64 0] 93)
          obtain ⟨V168, hV168⟩ : ∃ V, V = V133.alloc (.cells #[.int .u64 0, .int .u64 0] 93) := ⟨_, rfl⟩
          have Gp169 := Aside0.mk (show w.heap.size ≤ V133.heap.size from HB139.out.size)
          have Lp169_a := Aside0.mk (blk_lt F135.out)
          have Lp169_b := Aside0.mk (blk_lt F136.out)
          have Lp169_c := Aside0.mk (blk_lt F137.out)
          have Lp169_p5 := Aside0.mk (blk_lt F138.out)
          obtain ⟨p169, hp169⟩ : ∃ p, p = V133.heap.size := ⟨_, rfl⟩
          rw [← hp169, ← hV168]
          rw [← hp169, ← hV168] at F174'
          rw [← hp169] at Gp169 Lp169_a Lp169_b Lp169_c Lp169_p5
          rw [← hV168] at F170'
          have F170 := Aside0.mk F170'
          rw [← hV168] at F171'
          have F171 := Aside0.mk F171'
          rw [← hV168] at F172'
          have F172 := Aside0.mk F172'
          rw [← hV168] at F173'
          have F173 := Aside0.mk F173'
          have F174 := Aside0.mk F174'
          rw [← hV168] at HB175'
          have HB175 := Aside0.mk HB175'
          clear hV168 hp169 F170' F171' F172' F173' F174' HB175'
          refine hK.out _ _ (KA.out _ F170.out F171.out) (fun hHeld2 => ?_)
          clear hK K hHeld
          have hHeld := hHeld2
          clear hHeld2
          (try simp only [Act.put, g4, g5, g6])
          refine wpAnyH_ready (rs := [3]) (by kernel_rfl) (by simp) ?_
          refine AllReadyH.cons (o := ?ob26) ?hb26 (fun K hK => ?sb26) ?mb26
          case hb26 => simp only [g1, g2, g3]; rfl
          case sb26 =>
            go_simp
            refine (words_calls h2 l2 _).mono ?_
            rintro e w176 ⟨rfl, hb⟩
            have F177 := Aside0.mk ((hb.block _ (blk_lt F170.out)).trans F170.out)
            have F178 := Aside0.mk ((hb.block _ (blk_lt F171.out)).trans F171.out)
            have F179 := Aside0.mk ((hb.block _ (blk_lt F172.out)).trans F172.out)
            have F180 := Aside0.mk ((hb.block _ (blk_lt F173.out)).trans F173.out)
            have F181 := Aside0.mk ((hb.block _ (blk_lt F174.out)).trans F174.out)
            have HB182 := Aside0.mk (below_then HB175.out HB175.out.size hb)
            clear hb
            refine hK.out _ _ (KA.out _ F177.out F178.out) (fun hHeld2 => ?_)
            clear hK K hHeld
            have hHeld := hHeld2
            clear hHeld2
            (try simp only [Act.put, g4, g5, g6])
            refine wpAnyH_ready (rs := [6]) (by kernel_rfl) (by simp) ?_
            refine AllReadyH.cons (o := ?ob27) ?hb27 (fun K hK => ?sb27) ?mb27
            case hb27 => simp only [g1, g2, g3]; rfl
            case sb27 =>
              have fz0 := blk_frozen F181.out 0
              have fz1 := blk_frozen F181.out 1
              have y0 := (blk_cell F181.out 0).trans rfl
              have y1 := (blk_cell F181.out 1).trans rfl
              go_simp
              clear fz0 fz1 y0 y1
              have F184' := blk_far (blk_far F177.out (p := ⟨p169, 0, none⟩) (by have := Lp169_a.out; show _ ≠ p169; omega) (.int .u64 l)) (p := ⟨p169, 1, none⟩) (by have := Lp169_a.out; show _ ≠ p169; omega) (.int .u64 h)
              have F185' := blk_far (blk_far F178.out (p := ⟨p169, 0, none⟩) (by have := Lp169_b.out; show _ ≠ p169; omega) (.int .u64 l)) (p := ⟨p169, 1, none⟩) (by have := Lp169_b.out; show _ ≠ p169; omega) (.int .u64 h)
              have F186' := blk_far (blk_far F179.out (p := ⟨p169, 0, none⟩) (by have := Lp169_c.out; show _ ≠ p169; omega) (.int .u64 l)) (p := ⟨p169, 1, none⟩) (by have := Lp169_c.out; show _ ≠ p169; omega) (.int .u64 h)
              have F187' := blk_far (blk_far F180.out (p := ⟨p169, 0, none⟩) (by show p134 ≠ p169; have := Lp169_p5.out; omega) (.int .u64 l)) (p := ⟨p169, 1, none⟩) (by show p134 ≠ p169; have := Lp169_p5.out; omega) (.int .u64 h)
              have F188' : ((w176.setCell ⟨p169, 0, none⟩ (.int .u64 l)).setCell ⟨p169, 1, none⟩ (.int .u64 h)).heap[p169]? = some (.cells #[.int .u64 l, .int .u64 h] 93 (0, 0)) := by have P := blk_set (blk_set F181.out 0 (.int .u64 l)) 1 (.int .u64 h); simpa using P
              have HB189' := bset (bset HB182.out Gp169.out 0 (.int .u64 l)) Gp169.out 1 (.int .u64 h)
              obtain ⟨V183, hV183⟩ : ∃ V, V = ((w176.setCell ⟨p169, 0, none⟩ (.int .u64 l)).setCell ⟨p169, 1, none⟩ (.int .u64 h)) := ⟨_, rfl⟩
              rw [← hV183]
              rw [← hV183] at F184'
              have F184 := Aside0.mk F184'
              clear F184'
              rw [← hV183] at F185'
              have F185 := Aside0.mk F185'
              clear F185'
              rw [← hV183] at F186'
              have F186 := Aside0.mk F186'
              clear F186'
              rw [← hV183] at F187'
              have F187 := Aside0.mk F187'
              clear F187'
              rw [← hV183] at F188'
              have F188 := Aside0.mk F188'
              clear F188'
              rw [← hV183] at HB189'
              have HB189 := Aside0.mk HB189'
              clear HB189'
              clear hV183
              refine hK.out _ _ (KA.out _ F184.out F185.out) (fun hHeld2 => ?_)
              clear hK K hHeld
              have hHeld := hHeld2
              clear hHeld2
              (try simp only [Act.put, g4, g5, g6])
              refine wpAnyH_ready (rs := [7]) (by kernel_rfl) (by simp) ?_
              refine AllReadyH.cons (o := ?ob28) ?hb28 (fun K hK => ?sb28) ?mb28
              case hb28 => simp only [g1, g2, g3]; rfl
              case sb28 =>
                have fz0 := blk_frozen F187.out 0
                have fz1 := blk_frozen F187.out 1
                have y0 := (blk_cell F187.out 0).trans rfl
                have y1 := (blk_cell F187.out 1).trans rfl
                go_simp
                clear fz0 fz1 y0 y1
                have F191' := blk_far (blk_far F184.out (p := ⟨p134, 0, none⟩) (by have := Lp134_a.out; show _ ≠ p134; omega) (.int .u64 l2)) (p := ⟨p134, 1, none⟩) (by have := Lp134_a.out; show _ ≠ p134; omega) (.int .u64 h2)
                have F192' := blk_far (blk_far F185.out (p := ⟨p134, 0, none⟩) (by have := Lp134_b.out; show _ ≠ p134; omega) (.int .u64 l2)) (p := ⟨p134, 1, none⟩) (by have := Lp134_b.out; show _ ≠ p134; omega) (.int .u64 h2)
                have F193' := blk_far (blk_far F186.out (p := ⟨p134, 0, none⟩) (by have := Lp134_c.out; show _ ≠ p134; omega) (.int .u64 l2)) (p := ⟨p134, 1, none⟩) (by have := Lp134_c.out; show _ ≠ p134; omega) (.int .u64 h2)
                have F194' : ((V183.setCell ⟨p134, 0, none⟩ (.int .u64 l2)).setCell ⟨p134, 1, none⟩ (.int .u64 h2)).heap[p134]? = some (.cells #[.int .u64 l2, .int .u64 h2] 93 (0, 0)) := by have P := blk_set (blk_set F187.out 0 (.int .u64 l2)) 1 (.int .u64 h2); simpa using P
                have F195' := blk_far (blk_far F188.out (p := ⟨p134, 0, none⟩) (by show p169 ≠ p134; have := Lp169_p5.out; omega) (.int .u64 l2)) (p := ⟨p134, 1, none⟩) (by show p169 ≠ p134; have := Lp169_p5.out; omega) (.int .u64 h2)
                have HB196' := bset (bset HB189.out Gp134.out 0 (.int .u64 l2)) Gp134.out 1 (.int .u64 h2)
                obtain ⟨V190, hV190⟩ : ∃ V, V = ((V183.setCell ⟨p134, 0, none⟩ (.int .u64 l2)).setCell ⟨p134, 1, none⟩ (.int .u64 h2)) := ⟨_, rfl⟩
                rw [← hV190]
                rw [← hV190] at F191'
                have F191 := Aside0.mk F191'
                clear F191'
                rw [← hV190] at F192'
                have F192 := Aside0.mk F192'
                clear F192'
                rw [← hV190] at F193'
                have F193 := Aside0.mk F193'
                clear F193'
                rw [← hV190] at F194'
                have F194 := Aside0.mk F194'
                clear F194'
                rw [← hV190] at F195'
                have F195 := Aside0.mk F195'
                clear F195'
                rw [← hV190] at HB196'
                have HB196 := Aside0.mk HB196'
                clear HB196'
                clear hV190
                refine hK.out _ _ (KA.out _ F191.out F192.out) (fun hHeld2 => ?_)
                clear hK K hHeld
                have hHeld := hHeld2
                clear hHeld2
                (try simp only [Act.put, g4, g5, g6])
                refine wpAnyH_done (by kernel_rfl) ?_ _
                go_wp2
                go_meet
                case rel => exact ⟨p169, p134, rfl, rfl, (by have := Lp169_p5.out; omega), (by have := Lp169_c.out; omega), (by have := Lp134_c.out; omega), F193.out, F195.out, F194.out, HB196.out⟩
              exact AllReadyH.nil
            exact AllReadyH.nil
          exact AllReadyH.nil
        exact AllReadyH.nil
      exact AllReadyH.nil
    refine AllReadyH.cons (o := ?ob29) ?hb29 (fun K hK => ?sb29) ?mb29
    case hb29 => simp only [g1, g2, g3]; rfl
    case sb29 =>
      go_simp
      have F199' := (heap_alloc_old (.cells #[.int .u64 0, .int .u64 0] 93) (blk_lt F01.out)).trans F01.out
      have F200' := (heap_alloc_old (.cells #[.int .u64 0, .int .u64 0] 93) (blk_lt F02.out)).trans F02.out
      have F201' := (heap_alloc_old (.cells #[.int .u64 0, .int .u64 0] 93) (blk_lt F03.out)).trans F03.out
      have F202' := heap_alloc_new Wd (.cells #[.int .u64 0, .int .u64 0] 93)
      have HB203' := HB0d.out.alloc HB0d.out.size (.cells #[.int .u64 0, .int .u64 0] 93)
      obtain ⟨V197, hV197⟩ : ∃ V, V = Wd.alloc (.cells #[.int .u64 0, .int .u64 0] 93) := ⟨_, rfl⟩
      have Gp198 := Aside0.mk (show w.heap.size ≤ Wd.heap.size from HB0d.out.size)
      have Lp198_a := Aside0.mk (blk_lt F01.out)
      have Lp198_b := Aside0.mk (blk_lt F02.out)
      have Lp198_c := Aside0.mk (blk_lt F03.out)
      obtain ⟨p198, hp198⟩ : ∃ p, p = Wd.heap.size := ⟨_, rfl⟩
      rw [← hp198, ← hV197]
      rw [← hp198, ← hV197] at F202'
      rw [← hp198] at Gp198 Lp198_a Lp198_b Lp198_c
      rw [← hV197] at F199'
      have F199 := Aside0.mk F199'
      rw [← hV197] at F200'
      have F200 := Aside0.mk F200'
      rw [← hV197] at F201'
      have F201 := Aside0.mk F201'
      have F202 := Aside0.mk F202'
      rw [← hV197] at HB203'
      have HB203 := Aside0.mk HB203'
      clear hV197 hp198 F199' F200' F201' F202' HB203'
      refine hK.out _ _ (KA.out _ F199.out F200.out) (fun hHeld2 => ?_)
      clear hK K hHeld
      have hHeld := hHeld2
      clear hHeld2
      (try simp only [Act.put, g4, g5, g6])
      refine wpAnyH_ready (rs := [1, 5]) (by kernel_rfl) (by simp) ?_
      refine AllReadyH.cons (o := ?ob30) ?hb30 (fun K hK => ?sb30) ?mb30
      case hb30 => simp only [g1, g2, g3]; rfl
      case sb30 =>
        go_simp
        refine (words_calls h l _).mono ?_
        rintro e w204 ⟨rfl, hb⟩
        have F205 := Aside0.mk ((hb.block _ (blk_lt F199.out)).trans F199.out)
        have F206 := Aside0.mk ((hb.block _ (blk_lt F200.out)).trans F200.out)
        have F207 := Aside0.mk ((hb.block _ (blk_lt F201.out)).trans F201.out)
        have F208 := Aside0.mk ((hb.block _ (blk_lt F202.out)).trans F202.out)
        have HB209 := Aside0.mk (below_then HB203.out HB203.out.size hb)
        clear hb
        refine hK.out _ _ (KA.out _ F205.out F206.out) (fun hHeld2 => ?_)
        clear hK K hHeld
        have hHeld := hHeld2
        clear hHeld2
        (try simp only [Act.put, g4, g5, g6])
        refine wpAnyH_ready (rs := [3, 5]) (by kernel_rfl) (by simp) ?_
        refine AllReadyH.cons (o := ?ob31) ?hb31 (fun K hK => ?sb31) ?mb31
        case hb31 => simp only [g1, g2, g3]; rfl
        case sb31 =>
          go_simp
          refine (words_calls h2 l2 _).mono ?_
          rintro e w210 ⟨rfl, hb⟩
          have F211 := Aside0.mk ((hb.block _ (blk_lt F205.out)).trans F205.out)
          have F212 := Aside0.mk ((hb.block _ (blk_lt F206.out)).trans F206.out)
          have F213 := Aside0.mk ((hb.block _ (blk_lt F207.out)).trans F207.out)
          have F214 := Aside0.mk ((hb.block _ (blk_lt F208.out)).trans F208.out)
          have HB215 := Aside0.mk (below_then HB209.out HB209.out.size hb)
          clear hb
          refine hK.out _ _ (KA.out _ F211.out F212.out) (fun hHeld2 => ?_)
          clear hK K hHeld
          have hHeld := hHeld2
          clear hHeld2
          (try simp only [Act.put, g4, g5, g6])
          refine wpAnyH_ready (rs := [5]) (by kernel_rfl) (by simp) ?_
          refine AllReadyH.cons (o := ?ob32) ?hb32 (fun K hK => ?sb32) ?mb32
          case hb32 => simp only [g1, g2, g3]; rfl
          case sb32 =>
            go_simp
            have F218' := (heap_alloc_old (.cells #[.int .u64 0, .int .u64 0] 93) (blk_lt F211.out)).trans F211.out
            have F219' := (heap_alloc_old (.cells #[.int .u64 0, .int .u64 0] 93) (blk_lt F212.out)).trans F212.out
            have F220' := (heap_alloc_old (.cells #[.int .u64 0, .int .u64 0] 93) (blk_lt F213.out)).trans F213.out
            have F221' := (heap_alloc_old (.cells #[.int .u64 0, .int .u64 0] 93) (blk_lt F214.out)).trans F214.out
            have F222' := heap_alloc_new w210 (.cells #[.int .u64 0, .int .u64 0] 93)
            have HB223' := HB215.out.alloc HB215.out.size (.cells #[.int .u64 0, .int .u64 0] 93)
            obtain ⟨V216, hV216⟩ : ∃ V, V = w210.alloc (.cells #[.int .u64 0, .int .u64 0] 93) := ⟨_, rfl⟩
            have Gp217 := Aside0.mk (show w.heap.size ≤ w210.heap.size from HB215.out.size)
            have Lp217_a := Aside0.mk (blk_lt F211.out)
            have Lp217_b := Aside0.mk (blk_lt F212.out)
            have Lp217_c := Aside0.mk (blk_lt F213.out)
            have Lp217_p4 := Aside0.mk (blk_lt F214.out)
            obtain ⟨p217, hp217⟩ : ∃ p, p = w210.heap.size := ⟨_, rfl⟩
            rw [← hp217, ← hV216]
            rw [← hp217, ← hV216] at F222'
            rw [← hp217] at Gp217 Lp217_a Lp217_b Lp217_c Lp217_p4
            rw [← hV216] at F218'
            have F218 := Aside0.mk F218'
            rw [← hV216] at F219'
            have F219 := Aside0.mk F219'
            rw [← hV216] at F220'
            have F220 := Aside0.mk F220'
            rw [← hV216] at F221'
            have F221 := Aside0.mk F221'
            have F222 := Aside0.mk F222'
            rw [← hV216] at HB223'
            have HB223 := Aside0.mk HB223'
            clear hV216 hp217 F218' F219' F220' F221' F222' HB223'
            refine hK.out _ _ (KA.out _ F218.out F219.out) (fun hHeld2 => ?_)
            clear hK K hHeld
            have hHeld := hHeld2
            clear hHeld2
            (try simp only [Act.put, g4, g5, g6])
            refine wpAnyH_ready (rs := [6]) (by kernel_rfl) (by simp) ?_
            refine AllReadyH.cons (o := ?ob33) ?hb33 (fun K hK => ?sb33) ?mb33
            case hb33 => simp only [g1, g2, g3]; rfl
            case sb33 =>
              have fz0 := blk_frozen F221.out 0
              have fz1 := blk_frozen F221.out 1
              have y0 := (blk_cell F221.out 0).trans rfl
              have y1 := (blk_cell F221.out 1).trans rfl
              go_simp
              clear fz0 fz1 y0 y1
              have F225' := blk_far (blk_far F218.out (p := ⟨p198, 0, none⟩) (by have := Lp198_a.out; show _ ≠ p198; omega) (.int .u64 l)) (p := ⟨p198, 1, none⟩) (by have := Lp198_a.out; show _ ≠ p198; omega) (.int .u64 h)
              have F226' := blk_far (blk_far F219.out (p := ⟨p198, 0, none⟩) (by have := Lp198_b.out; show _ ≠ p198; omega) (.int .u64 l)) (p := ⟨p198, 1, none⟩) (by have := Lp198_b.out; show _ ≠ p198; omega) (.int .u64 h)
              have F227' := blk_far (blk_far F220.out (p := ⟨p198, 0, none⟩) (by have := Lp198_c.out; show _ ≠ p198; omega) (.int .u64 l)) (p := ⟨p198, 1, none⟩) (by have := Lp198_c.out; show _ ≠ p198; omega) (.int .u64 h)
              have F228' : ((V216.setCell ⟨p198, 0, none⟩ (.int .u64 l)).setCell ⟨p198, 1, none⟩ (.int .u64 h)).heap[p198]? = some (.cells #[.int .u64 l, .int .u64 h] 93 (0, 0)) := by have P := blk_set (blk_set F221.out 0 (.int .u64 l)) 1 (.int .u64 h); simpa using P
              have F229' := blk_far (blk_far F222.out (p := ⟨p198, 0, none⟩) (by show p217 ≠ p198; have := Lp217_p4.out; omega) (.int .u64 l)) (p := ⟨p198, 1, none⟩) (by show p217 ≠ p198; have := Lp217_p4.out; omega) (.int .u64 h)
              have HB230' := bset (bset HB223.out Gp198.out 0 (.int .u64 l)) Gp198.out 1 (.int .u64 h)
              obtain ⟨V224, hV224⟩ : ∃ V, V = ((V216.setCell ⟨p198, 0, none⟩ (.int .u64 l)).setCell ⟨p198, 1, none⟩ (.int .u64 h)) := ⟨_, rfl⟩
              rw [← hV224]
              rw [← hV224] at F225'
              have F225 := Aside0.mk F225'
              clear F225'
              rw [← hV224] at F226'
              have F226 := Aside0.mk F226'
              clear F226'
              rw [← hV224] at F227'
              have F227 := Aside0.mk F227'
              clear F227'
              rw [← hV224] at F228'
              have F228 := Aside0.mk F228'
              clear F228'
              rw [← hV224] at F229'
              have F229 := Aside0.mk F229'
              clear F229'
              rw [← hV224] at HB230'
              have HB230 := Aside0.mk HB230'
              clear HB230'
              clear hV224
              refine hK.out _ _ (KA.out _ F225.out F226.out) (fun hHeld2 => ?_)
              clear hK K hHeld
              have hHeld := hHeld2
              clear hHeld2
              (try simp only [Act.put, g4, g5, g6])
              refine wpAnyH_ready (rs := [7]) (by kernel_rfl) (by simp) ?_
              refine AllReadyH.cons (o := ?ob34) ?hb34 (fun K hK => ?sb34) ?mb34
              case hb34 => simp only [g1, g2, g3]; rfl
              case sb34 =>
                have fz0 := blk_frozen F229.out 0
                have fz1 := blk_frozen F229.out 1
                have y0 := (blk_cell F229.out 0).trans rfl
                have y1 := (blk_cell F229.out 1).trans rfl
                go_simp
                clear fz0 fz1 y0 y1
                have F232' := blk_far (blk_far F225.out (p := ⟨p217, 0, none⟩) (by have := Lp217_a.out; show _ ≠ p217; omega) (.int .u64 l2)) (p := ⟨p217, 1, none⟩) (by have := Lp217_a.out; show _ ≠ p217; omega) (.int .u64 h2)
                have F233' := blk_far (blk_far F226.out (p := ⟨p217, 0, none⟩) (by have := Lp217_b.out; show _ ≠ p217; omega) (.int .u64 l2)) (p := ⟨p217, 1, none⟩) (by have := Lp217_b.out; show _ ≠ p217; omega) (.int .u64 h2)
                have F234' := blk_far (blk_far F227.out (p := ⟨p217, 0, none⟩) (by have := Lp217_c.out; show _ ≠ p217; omega) (.int .u64 l2)) (p := ⟨p217, 1, none⟩) (by have := Lp217_c.out; show _ ≠ p217; omega) (.int .u64 h2)
                have F235' := blk_far (blk_far F228.out (p := ⟨p217, 0, none⟩) (by show p198 ≠ p217; have := Lp217_p4.out; omega) (.int .u64 l2)) (p := ⟨p217, 1, none⟩) (by show p198 ≠ p217; have := Lp217_p4.out; omega) (.int .u64 h2)
                have F236' : ((V224.setCell ⟨p217, 0, none⟩ (.int .u64 l2)).setCell ⟨p217, 1, none⟩ (.int .u64 h2)).heap[p217]? = some (.cells #[.int .u64 l2, .int .u64 h2] 93 (0, 0)) := by have P := blk_set (blk_set F229.out 0 (.int .u64 l2)) 1 (.int .u64 h2); simpa using P
                have HB237' := bset (bset HB230.out Gp217.out 0 (.int .u64 l2)) Gp217.out 1 (.int .u64 h2)
                obtain ⟨V231, hV231⟩ : ∃ V, V = ((V224.setCell ⟨p217, 0, none⟩ (.int .u64 l2)).setCell ⟨p217, 1, none⟩ (.int .u64 h2)) := ⟨_, rfl⟩
                rw [← hV231]
                rw [← hV231] at F232'
                have F232 := Aside0.mk F232'
                clear F232'
                rw [← hV231] at F233'
                have F233 := Aside0.mk F233'
                clear F233'
                rw [← hV231] at F234'
                have F234 := Aside0.mk F234'
                clear F234'
                rw [← hV231] at F235'
                have F235 := Aside0.mk F235'
                clear F235'
                rw [← hV231] at F236'
                have F236 := Aside0.mk F236'
                clear F236'
                rw [← hV231] at HB237'
                have HB237 := Aside0.mk HB237'
                clear HB237'
                clear hV231
                refine hK.out _ _ (KA.out _ F232.out F233.out) (fun hHeld2 => ?_)
                clear hK K hHeld
                have hHeld := hHeld2
                clear hHeld2
                (try simp only [Act.put, g4, g5, g6])
                refine wpAnyH_done (by kernel_rfl) ?_ _
                go_wp2
                go_meet
                case rel => exact ⟨p198, p217, rfl, rfl, (by have := Lp217_p4.out; omega), (by have := Lp198_c.out; omega), (by have := Lp217_c.out; omega), F234.out, F235.out, F236.out, HB237.out⟩
              exact AllReadyH.nil
            exact AllReadyH.nil
          exact AllReadyH.nil
        refine AllReadyH.cons (o := ?ob35) ?hb35 (fun K hK => ?sb35) ?mb35
        case hb35 => simp only [g1, g2, g3]; rfl
        case sb35 =>
          go_simp
          have F240' := (heap_alloc_old (.cells #[.int .u64 0, .int .u64 0] 93) (blk_lt F205.out)).trans F205.out
          have F241' := (heap_alloc_old (.cells #[.int .u64 0, .int .u64 0] 93) (blk_lt F206.out)).trans F206.out
          have F242' := (heap_alloc_old (.cells #[.int .u64 0, .int .u64 0] 93) (blk_lt F207.out)).trans F207.out
          have F243' := (heap_alloc_old (.cells #[.int .u64 0, .int .u64 0] 93) (blk_lt F208.out)).trans F208.out
          have F244' := heap_alloc_new w204 (.cells #[.int .u64 0, .int .u64 0] 93)
          have HB245' := HB209.out.alloc HB209.out.size (.cells #[.int .u64 0, .int .u64 0] 93)
          obtain ⟨V238, hV238⟩ : ∃ V, V = w204.alloc (.cells #[.int .u64 0, .int .u64 0] 93) := ⟨_, rfl⟩
          have Gp239 := Aside0.mk (show w.heap.size ≤ w204.heap.size from HB209.out.size)
          have Lp239_a := Aside0.mk (blk_lt F205.out)
          have Lp239_b := Aside0.mk (blk_lt F206.out)
          have Lp239_c := Aside0.mk (blk_lt F207.out)
          have Lp239_p4 := Aside0.mk (blk_lt F208.out)
          obtain ⟨p239, hp239⟩ : ∃ p, p = w204.heap.size := ⟨_, rfl⟩
          rw [← hp239, ← hV238]
          rw [← hp239, ← hV238] at F244'
          rw [← hp239] at Gp239 Lp239_a Lp239_b Lp239_c Lp239_p4
          rw [← hV238] at F240'
          have F240 := Aside0.mk F240'
          rw [← hV238] at F241'
          have F241 := Aside0.mk F241'
          rw [← hV238] at F242'
          have F242 := Aside0.mk F242'
          rw [← hV238] at F243'
          have F243 := Aside0.mk F243'
          have F244 := Aside0.mk F244'
          rw [← hV238] at HB245'
          have HB245 := Aside0.mk HB245'
          clear hV238 hp239 F240' F241' F242' F243' F244' HB245'
          refine hK.out _ _ (KA.out _ F240.out F241.out) (fun hHeld2 => ?_)
          clear hK K hHeld
          have hHeld := hHeld2
          clear hHeld2
          (try simp only [Act.put, g4, g5, g6])
          refine wpAnyH_ready (rs := [3]) (by kernel_rfl) (by simp) ?_
          refine AllReadyH.cons (o := ?ob36) ?hb36 (fun K hK => ?sb36) ?mb36
          case hb36 => simp only [g1, g2, g3]; rfl
          case sb36 =>
            go_simp
            refine (words_calls h2 l2 _).mono ?_
            rintro e w246 ⟨rfl, hb⟩
            have F247 := Aside0.mk ((hb.block _ (blk_lt F240.out)).trans F240.out)
            have F248 := Aside0.mk ((hb.block _ (blk_lt F241.out)).trans F241.out)
            have F249 := Aside0.mk ((hb.block _ (blk_lt F242.out)).trans F242.out)
            have F250 := Aside0.mk ((hb.block _ (blk_lt F243.out)).trans F243.out)
            have F251 := Aside0.mk ((hb.block _ (blk_lt F244.out)).trans F244.out)
            have HB252 := Aside0.mk (below_then HB245.out HB245.out.size hb)
            clear hb
            refine hK.out _ _ (KA.out _ F247.out F248.out) (fun hHeld2 => ?_)
            clear hK K hHeld
            have hHeld := hHeld2
            clear hHeld2
            (try simp only [Act.put, g4, g5, g6])
            refine wpAnyH_ready (rs := [6]) (by kernel_rfl) (by simp) ?_
            refine AllReadyH.cons (o := ?ob37) ?hb37 (fun K hK => ?sb37) ?mb37
            case hb37 => simp only [g1, g2, g3]; rfl
            case sb37 =>
              have fz0 := blk_frozen F250.out 0
              have fz1 := blk_frozen F250.out 1
              have y0 := (blk_cell F250.out 0).trans rfl
              have y1 := (blk_cell F250.out 1).trans rfl
              go_simp
              clear fz0 fz1 y0 y1
              have F254' := blk_far (blk_far F247.out (p := ⟨p198, 0, none⟩) (by have := Lp198_a.out; show _ ≠ p198; omega) (.int .u64 l)) (p := ⟨p198, 1, none⟩) (by have := Lp198_a.out; show _ ≠ p198; omega) (.int .u64 h)
              have F255' := blk_far (blk_far F248.out (p := ⟨p198, 0, none⟩) (by have := Lp198_b.out; show _ ≠ p198; omega) (.int .u64 l)) (p := ⟨p198, 1, none⟩) (by have := Lp198_b.out; show _ ≠ p198; omega) (.int .u64 h)
              have F256' := blk_far (blk_far F249.out (p := ⟨p198, 0, none⟩) (by have := Lp198_c.out; show _ ≠ p198; omega) (.int .u64 l)) (p := ⟨p198, 1, none⟩) (by have := Lp198_c.out; show _ ≠ p198; omega) (.int .u64 h)
              have F257' : ((w246.setCell ⟨p198, 0, none⟩ (.int .u64 l)).setCell ⟨p198, 1, none⟩ (.int .u64 h)).heap[p198]? = some (.cells #[.int .u64 l, .int .u64 h] 93 (0, 0)) := by have P := blk_set (blk_set F250.out 0 (.int .u64 l)) 1 (.int .u64 h); simpa using P
              have F258' := blk_far (blk_far F251.out (p := ⟨p198, 0, none⟩) (by show p239 ≠ p198; have := Lp239_p4.out; omega) (.int .u64 l)) (p := ⟨p198, 1, none⟩) (by show p239 ≠ p198; have := Lp239_p4.out; omega) (.int .u64 h)
              have HB259' := bset (bset HB252.out Gp198.out 0 (.int .u64 l)) Gp198.out 1 (.int .u64 h)
              obtain ⟨V253, hV253⟩ : ∃ V, V = ((w246.setCell ⟨p198, 0, none⟩ (.int .u64 l)).setCell ⟨p198, 1, none⟩ (.int .u64 h)) := ⟨_, rfl⟩
              rw [← hV253]
              rw [← hV253] at F254'
              have F254 := Aside0.mk F254'
              clear F254'
              rw [← hV253] at F255'
              have F255 := Aside0.mk F255'
              clear F255'
              rw [← hV253] at F256'
              have F256 := Aside0.mk F256'
              clear F256'
              rw [← hV253] at F257'
              have F257 := Aside0.mk F257'
              clear F257'
              rw [← hV253] at F258'
              have F258 := Aside0.mk F258'
              clear F258'
              rw [← hV253] at HB259'
              have HB259 := Aside0.mk HB259'
              clear HB259'
              clear hV253
              refine hK.out _ _ (KA.out _ F254.out F255.out) (fun hHeld2 => ?_)
              clear hK K hHeld
              have hHeld := hHeld2
              clear hHeld2
              (try simp only [Act.put, g4, g5, g6])
              refine wpAnyH_ready (rs := [7]) (by kernel_rfl) (by simp) ?_
              refine AllReadyH.cons (o := ?ob38) ?hb38 (fun K hK => ?sb38) ?mb38
              case hb38 => simp only [g1, g2, g3]; rfl
              case sb38 =>
                have fz0 := blk_frozen F258.out 0
                have fz1 := blk_frozen F258.out 1
                have y0 := (blk_cell F258.out 0).trans rfl
                have y1 := (blk_cell F258.out 1).trans rfl
                go_simp
                clear fz0 fz1 y0 y1
                have F261' := blk_far (blk_far F254.out (p := ⟨p239, 0, none⟩) (by have := Lp239_a.out; show _ ≠ p239; omega) (.int .u64 l2)) (p := ⟨p239, 1, none⟩) (by have := Lp239_a.out; show _ ≠ p239; omega) (.int .u64 h2)
                have F262' := blk_far (blk_far F255.out (p := ⟨p239, 0, none⟩) (by have := Lp239_b.out; show _ ≠ p239; omega) (.int .u64 l2)) (p := ⟨p239, 1, none⟩) (by have := Lp239_b.out; show _ ≠ p239; omega) (.int .u64 h2)
                have F263' := blk_far (blk_far F256.out (p := ⟨p239, 0, none⟩) (by have := Lp239_c.out; show _ ≠ p239; omega) (.int .u64 l2)) (p := ⟨p239, 1, none⟩) (by have := Lp239_c.out; show _ ≠ p239; omega) (.int .u64 h2)
                have F264' := blk_far (blk_far F257.out (p := ⟨p239, 0, none⟩) (by show p198 ≠ p239; have := Lp239_p4.out; omega) (.int .u64 l2)) (p := ⟨p239, 1, none⟩) (by show p198 ≠ p239; have := Lp239_p4.out; omega) (.int .u64 h2)
                have F265' : ((V253.setCell ⟨p239, 0, none⟩ (.int .u64 l2)).setCell ⟨p239, 1, none⟩ (.int .u64 h2)).heap[p239]? = some (.cells #[.int .u64 l2, .int .u64 h2] 93 (0, 0)) := by have P := blk_set (blk_set F258.out 0 (.int .u64 l2)) 1 (.int .u64 h2); simpa using P
                have HB266' := bset (bset HB259.out Gp239.out 0 (.int .u64 l2)) Gp239.out 1 (.int .u64 h2)
                obtain ⟨V260, hV260⟩ : ∃ V, V = ((V253.setCell ⟨p239, 0, none⟩ (.int .u64 l2)).setCell ⟨p239, 1, none⟩ (.int .u64 h2)) := ⟨_, rfl⟩
                rw [← hV260]
                rw [← hV260] at F261'
                have F261 := Aside0.mk F261'
                clear F261'
                rw [← hV260] at F262'
                have F262 := Aside0.mk F262'
                clear F262'
                rw [← hV260] at F263'
                have F263 := Aside0.mk F263'
                clear F263'
                rw [← hV260] at F264'
                have F264 := Aside0.mk F264'
                clear F264'
                rw [← hV260] at F265'
                have F265 := Aside0.mk F265'
                clear F265'
                rw [← hV260] at HB266'
                have HB266 := Aside0.mk HB266'
                clear HB266'
                clear hV260
                refine hK.out _ _ (KA.out _ F261.out F262.out) (fun hHeld2 => ?_)
                clear hK K hHeld
                have hHeld := hHeld2
                clear hHeld2
                (try simp only [Act.put, g4, g5, g6])
                refine wpAnyH_done (by kernel_rfl) ?_ _
                go_wp2
                go_meet
                case rel => exact ⟨p198, p239, rfl, rfl, (by have := Lp239_p4.out; omega), (by have := Lp198_c.out; omega), (by have := Lp239_c.out; omega), F263.out, F264.out, F265.out, HB266.out⟩
              exact AllReadyH.nil
            exact AllReadyH.nil
          exact AllReadyH.nil
        exact AllReadyH.nil
      refine AllReadyH.cons (o := ?ob39) ?hb39 (fun K hK => ?sb39) ?mb39
      case hb39 => simp only [g1, g2, g3]; rfl
      case sb39 =>
        go_simp
        have F269' := (heap_alloc_old (.cells #[.int .u64 0, .int .u64 0] 93) (blk_lt F199.out)).trans F199.out
        have F270' := (heap_alloc_old (.cells #[.int .u64 0, .int .u64 0] 93) (blk_lt F200.out)).trans F200.out
        have F271' := (heap_alloc_old (.cells #[.int .u64 0, .int .u64 0] 93) (blk_lt F201.out)).trans F201.out
        have F272' := (heap_alloc_old (.cells #[.int .u64 0, .int .u64 0] 93) (blk_lt F202.out)).trans F202.out
        have F273' := heap_alloc_new V197 (.cells #[.int .u64 0, .int .u64 0] 93)
        have HB274' := HB203.out.alloc HB203.out.size (.cells #[.int .u64 0, .int .u64 0] 93)
        obtain ⟨V267, hV267⟩ : ∃ V, V = V197.alloc (.cells #[.int .u64 0, .int .u64 0] 93) := ⟨_, rfl⟩
        have Gp268 := Aside0.mk (show w.heap.size ≤ V197.heap.size from HB203.out.size)
        have Lp268_a := Aside0.mk (blk_lt F199.out)
        have Lp268_b := Aside0.mk (blk_lt F200.out)
        have Lp268_c := Aside0.mk (blk_lt F201.out)
        have Lp268_p4 := Aside0.mk (blk_lt F202.out)
        obtain ⟨p268, hp268⟩ : ∃ p, p = V197.heap.size := ⟨_, rfl⟩
        rw [← hp268, ← hV267]
        rw [← hp268, ← hV267] at F273'
        rw [← hp268] at Gp268 Lp268_a Lp268_b Lp268_c Lp268_p4
        rw [← hV267] at F269'
        have F269 := Aside0.mk F269'
        rw [← hV267] at F270'
        have F270 := Aside0.mk F270'
        rw [← hV267] at F271'
        have F271 := Aside0.mk F271'
        rw [← hV267] at F272'
        have F272 := Aside0.mk F272'
        have F273 := Aside0.mk F273'
        rw [← hV267] at HB274'
        have HB274 := Aside0.mk HB274'
        clear hV267 hp268 F269' F270' F271' F272' F273' HB274'
        refine hK.out _ _ (KA.out _ F269.out F270.out) (fun hHeld2 => ?_)
        clear hK K hHeld
        have hHeld := hHeld2
        clear hHeld2
        (try simp only [Act.put, g4, g5, g6])
        refine wpAnyH_ready (rs := [1]) (by kernel_rfl) (by simp) ?_
        refine AllReadyH.cons (o := ?ob40) ?hb40 (fun K hK => ?sb40) ?mb40
        case hb40 => simp only [g1, g2, g3]; rfl
        case sb40 =>
          go_simp
          refine (words_calls h l _).mono ?_
          rintro e w275 ⟨rfl, hb⟩
          have F276 := Aside0.mk ((hb.block _ (blk_lt F269.out)).trans F269.out)
          have F277 := Aside0.mk ((hb.block _ (blk_lt F270.out)).trans F270.out)
          have F278 := Aside0.mk ((hb.block _ (blk_lt F271.out)).trans F271.out)
          have F279 := Aside0.mk ((hb.block _ (blk_lt F272.out)).trans F272.out)
          have F280 := Aside0.mk ((hb.block _ (blk_lt F273.out)).trans F273.out)
          have HB281 := Aside0.mk (below_then HB274.out HB274.out.size hb)
          clear hb
          refine hK.out _ _ (KA.out _ F276.out F277.out) (fun hHeld2 => ?_)
          clear hK K hHeld
          have hHeld := hHeld2
          clear hHeld2
          (try simp only [Act.put, g4, g5, g6])
          refine wpAnyH_ready (rs := [3]) (by kernel_rfl) (by simp) ?_
          refine AllReadyH.cons (o := ?ob41) ?hb41 (fun K hK => ?sb41) ?mb41
          case hb41 => simp only [g1, g2, g3]; rfl
          case sb41 =>
            go_simp
            refine (words_calls h2 l2 _).mono ?_
            rintro e w282 ⟨rfl, hb⟩
            have F283 := Aside0.mk ((hb.block _ (blk_lt F276.out)).trans F276.out)
            have F284 := Aside0.mk ((hb.block _ (blk_lt F277.out)).trans F277.out)
            have F285 := Aside0.mk ((hb.block _ (blk_lt F278.out)).trans F278.out)
            have F286 := Aside0.mk ((hb.block _ (blk_lt F279.out)).trans F279.out)
            have F287 := Aside0.mk ((hb.block _ (blk_lt F280.out)).trans F280.out)
            have HB288 := Aside0.mk (below_then HB281.out HB281.out.size hb)
            clear hb
            refine hK.out _ _ (KA.out _ F283.out F284.out) (fun hHeld2 => ?_)
            clear hK K hHeld
            have hHeld := hHeld2
            clear hHeld2
            (try simp only [Act.put, g4, g5, g6])
            refine wpAnyH_ready (rs := [6]) (by kernel_rfl) (by simp) ?_
            refine AllReadyH.cons (o := ?ob42) ?hb42 (fun K hK => ?sb42) ?mb42
            case hb42 => simp only [g1, g2, g3]; rfl
            case sb42 =>
              have fz0 := blk_frozen F286.out 0
              have fz1 := blk_frozen F286.out 1
              have y0 := (blk_cell F286.out 0).trans rfl
              have y1 := (blk_cell F286.out 1).trans rfl
              go_simp
              clear fz0 fz1 y0 y1
              have F290' := blk_far (blk_far F283.out (p := ⟨p198, 0, none⟩) (by have := Lp198_a.out; show _ ≠ p198; omega) (.int .u64 l)) (p := ⟨p198, 1, none⟩) (by have := Lp198_a.out; show _ ≠ p198; omega) (.int .u64 h)
              have F291' := blk_far (blk_far F284.out (p := ⟨p198, 0, none⟩) (by have := Lp198_b.out; show _ ≠ p198; omega) (.int .u64 l)) (p := ⟨p198, 1, none⟩) (by have := Lp198_b.out; show _ ≠ p198; omega) (.int .u64 h)
              have F292' := blk_far (blk_far F285.out (p := ⟨p198, 0, none⟩) (by have := Lp198_c.out; show _ ≠ p198; omega) (.int .u64 l)) (p := ⟨p198, 1, none⟩) (by have := Lp198_c.out; show _ ≠ p198; omega) (.int .u64 h)
              have F293' : ((w282.setCell ⟨p198, 0, none⟩ (.int .u64 l)).setCell ⟨p198, 1, none⟩ (.int .u64 h)).heap[p198]? = some (.cells #[.int .u64 l, .int .u64 h] 93 (0, 0)) := by have P := blk_set (blk_set F286.out 0 (.int .u64 l)) 1 (.int .u64 h); simpa using P
              have F294' := blk_far (blk_far F287.out (p := ⟨p198, 0, none⟩) (by show p268 ≠ p198; have := Lp268_p4.out; omega) (.int .u64 l)) (p := ⟨p198, 1, none⟩) (by show p268 ≠ p198; have := Lp268_p4.out; omega) (.int .u64 h)
              have HB295' := bset (bset HB288.out Gp198.out 0 (.int .u64 l)) Gp198.out 1 (.int .u64 h)
              obtain ⟨V289, hV289⟩ : ∃ V, V = ((w282.setCell ⟨p198, 0, none⟩ (.int .u64 l)).setCell ⟨p198, 1, none⟩ (.int .u64 h)) := ⟨_, rfl⟩
              rw [← hV289]
              rw [← hV289] at F290'
              have F290 := Aside0.mk F290'
              clear F290'
              rw [← hV289] at F291'
              have F291 := Aside0.mk F291'
              clear F291'
              rw [← hV289] at F292'
              have F292 := Aside0.mk F292'
              clear F292'
              rw [← hV289] at F293'
              have F293 := Aside0.mk F293'
              clear F293'
              rw [← hV289] at F294'
              have F294 := Aside0.mk F294'
              clear F294'
              rw [← hV289] at HB295'
              have HB295 := Aside0.mk HB295'
              clear HB295'
              clear hV289
              refine hK.out _ _ (KA.out _ F290.out F291.out) (fun hHeld2 => ?_)
              clear hK K hHeld
              have hHeld := hHeld2
              clear hHeld2
              (try simp only [Act.put, g4, g5, g6])
              refine wpAnyH_ready (rs := [7]) (by kernel_rfl) (by simp) ?_
              refine AllReadyH.cons (o := ?ob43) ?hb43 (fun K hK => ?sb43) ?mb43
              case hb43 => simp only [g1, g2, g3]; rfl
              case sb43 =>
                have fz0 := blk_frozen F294.out 0
                have fz1 := blk_frozen F294.out 1
                have y0 := (blk_cell F294.out 0).trans rfl
                have y1 := (blk_cell F294.out 1).trans rfl
                go_simp
                clear fz0 fz1 y0 y1
                have F297' := blk_far (blk_far F290.out (p := ⟨p268, 0, none⟩) (by have := Lp268_a.out; show _ ≠ p268; omega) (.int .u64 l2)) (p := ⟨p268, 1, none⟩) (by have := Lp268_a.out; show _ ≠ p268; omega) (.int .u64 h2)
                have F298' := blk_far (blk_far F291.out (p := ⟨p268, 0, none⟩) (by have := Lp268_b.out; show _ ≠ p268; omega) (.int .u64 l2)) (p := ⟨p268, 1, none⟩) (by have := Lp268_b.out; show _ ≠ p268; omega) (.int .u64 h2)
                have F299' := blk_far (blk_far F292.out (p := ⟨p268, 0, none⟩) (by have := Lp268_c.out; show _ ≠ p268; omega) (.int .u64 l2)) (p := ⟨p268, 1, none⟩) (by have := Lp268_c.out; show _ ≠ p268; omega) (.int .u64 h2)
                have F300' := blk_far (blk_far F293.out (p := ⟨p268, 0, none⟩) (by show p198 ≠ p268; have := Lp268_p4.out; omega) (.int .u64 l2)) (p := ⟨p268, 1, none⟩) (by show p198 ≠ p268; have := Lp268_p4.out; omega) (.int .u64 h2)
                have F301' : ((V289.setCell ⟨p268, 0, none⟩ (.int .u64 l2)).setCell ⟨p268, 1, none⟩ (.int .u64 h2)).heap[p268]? = some (.cells #[.int .u64 l2, .int .u64 h2] 93 (0, 0)) := by have P := blk_set (blk_set F294.out 0 (.int .u64 l2)) 1 (.int .u64 h2); simpa using P
                have HB302' := bset (bset HB295.out Gp268.out 0 (.int .u64 l2)) Gp268.out 1 (.int .u64 h2)
                obtain ⟨V296, hV296⟩ : ∃ V, V = ((V289.setCell ⟨p268, 0, none⟩ (.int .u64 l2)).setCell ⟨p268, 1, none⟩ (.int .u64 h2)) := ⟨_, rfl⟩
                rw [← hV296]
                rw [← hV296] at F297'
                have F297 := Aside0.mk F297'
                clear F297'
                rw [← hV296] at F298'
                have F298 := Aside0.mk F298'
                clear F298'
                rw [← hV296] at F299'
                have F299 := Aside0.mk F299'
                clear F299'
                rw [← hV296] at F300'
                have F300 := Aside0.mk F300'
                clear F300'
                rw [← hV296] at F301'
                have F301 := Aside0.mk F301'
                clear F301'
                rw [← hV296] at HB302'
                have HB302 := Aside0.mk HB302'
                clear HB302'
                clear hV296
                refine hK.out _ _ (KA.out _ F297.out F298.out) (fun hHeld2 => ?_)
                clear hK K hHeld
                have hHeld := hHeld2
                clear hHeld2
                (try simp only [Act.put, g4, g5, g6])
                refine wpAnyH_done (by kernel_rfl) ?_ _
                go_wp2
                go_meet
                case rel => exact ⟨p198, p268, rfl, rfl, (by have := Lp268_p4.out; omega), (by have := Lp198_c.out; omega), (by have := Lp268_c.out; omega), F299.out, F300.out, F301.out, HB302.out⟩
              exact AllReadyH.nil
            exact AllReadyH.nil
          exact AllReadyH.nil
        exact AllReadyH.nil
      exact AllReadyH.nil
    refine AllReadyH.cons (o := ?ob44) ?hb44 (fun K hK => ?sb44) ?mb44
    case hb44 => simp only [g1, g2, g3]; rfl
    case sb44 =>
      go_simp
      have F305' := (heap_alloc_old (.cells #[.int .u64 0, .int .u64 0] 93) (blk_lt F01.out)).trans F01.out
      have F306' := (heap_alloc_old (.cells #[.int .u64 0, .int .u64 0] 93) (blk_lt F02.out)).trans F02.out
      have F307' := (heap_alloc_old (.cells #[.int .u64 0, .int .u64 0] 93) (blk_lt F03.out)).trans F03.out
      have F308' := heap_alloc_new Wd (.cells #[.int .u64 0, .int .u64 0] 93)
      have HB309' := HB0d.out.alloc HB0d.out.size (.cells #[.int .u64 0, .int .u64 0] 93)
      obtain ⟨V303, hV303⟩ : ∃ V, V = Wd.alloc (.cells #[.int .u64 0, .int .u64 0] 93) := ⟨_, rfl⟩
      have Gp304 := Aside0.mk (show w.heap.size ≤ Wd.heap.size from HB0d.out.size)
      have Lp304_a := Aside0.mk (blk_lt F01.out)
      have Lp304_b := Aside0.mk (blk_lt F02.out)
      have Lp304_c := Aside0.mk (blk_lt F03.out)
      obtain ⟨p304, hp304⟩ : ∃ p, p = Wd.heap.size := ⟨_, rfl⟩
      rw [← hp304, ← hV303]
      rw [← hp304, ← hV303] at F308'
      rw [← hp304] at Gp304 Lp304_a Lp304_b Lp304_c
      rw [← hV303] at F305'
      have F305 := Aside0.mk F305'
      rw [← hV303] at F306'
      have F306 := Aside0.mk F306'
      rw [← hV303] at F307'
      have F307 := Aside0.mk F307'
      have F308 := Aside0.mk F308'
      rw [← hV303] at HB309'
      have HB309 := Aside0.mk HB309'
      clear hV303 hp304 F305' F306' F307' F308' HB309'
      refine hK.out _ _ (KA.out _ F305.out F306.out) (fun hHeld2 => ?_)
      clear hK K hHeld
      have hHeld := hHeld2
      clear hHeld2
      (try simp only [Act.put, g4, g5, g6])
      refine wpAnyH_ready (rs := [1, 4]) (by kernel_rfl) (by simp) ?_
      refine AllReadyH.cons (o := ?ob45) ?hb45 (fun K hK => ?sb45) ?mb45
      case hb45 => simp only [g1, g2, g3]; rfl
      case sb45 =>
        go_simp
        refine (words_calls h l _).mono ?_
        rintro e w310 ⟨rfl, hb⟩
        have F311 := Aside0.mk ((hb.block _ (blk_lt F305.out)).trans F305.out)
        have F312 := Aside0.mk ((hb.block _ (blk_lt F306.out)).trans F306.out)
        have F313 := Aside0.mk ((hb.block _ (blk_lt F307.out)).trans F307.out)
        have F314 := Aside0.mk ((hb.block _ (blk_lt F308.out)).trans F308.out)
        have HB315 := Aside0.mk (below_then HB309.out HB309.out.size hb)
        clear hb
        refine hK.out _ _ (KA.out _ F311.out F312.out) (fun hHeld2 => ?_)
        clear hK K hHeld
        have hHeld := hHeld2
        clear hHeld2
        (try simp only [Act.put, g4, g5, g6])
        refine wpAnyH_ready (rs := [3, 4]) (by kernel_rfl) (by simp) ?_
        refine AllReadyH.cons (o := ?ob46) ?hb46 (fun K hK => ?sb46) ?mb46
        case hb46 => simp only [g1, g2, g3]; rfl
        case sb46 =>
          go_simp
          refine (words_calls h2 l2 _).mono ?_
          rintro e w316 ⟨rfl, hb⟩
          have F317 := Aside0.mk ((hb.block _ (blk_lt F311.out)).trans F311.out)
          have F318 := Aside0.mk ((hb.block _ (blk_lt F312.out)).trans F312.out)
          have F319 := Aside0.mk ((hb.block _ (blk_lt F313.out)).trans F313.out)
          have F320 := Aside0.mk ((hb.block _ (blk_lt F314.out)).trans F314.out)
          have HB321 := Aside0.mk (below_then HB315.out HB315.out.size hb)
          clear hb
          refine hK.out _ _ (KA.out _ F317.out F318.out) (fun hHeld2 => ?_)
          clear hK K hHeld
          have hHeld := hHeld2
          clear hHeld2
          (try simp only [Act.put, g4, g5, g6])
          refine wpAnyH_ready (rs := [4]) (by kernel_rfl) (by simp) ?_
          refine AllReadyH.cons (o := ?ob47) ?hb47 (fun K hK => ?sb47) ?mb47
          case hb47 => simp only [g1, g2, g3]; rfl
          case sb47 =>
            go_simp
            have F324' := (heap_alloc_old (.cells #[.int .u64 0, .int .u64 0] 93) (blk_lt F317.out)).trans F317.out
            have F325' := (heap_alloc_old (.cells #[.int .u64 0, .int .u64 0] 93) (blk_lt F318.out)).trans F318.out
            have F326' := (heap_alloc_old (.cells #[.int .u64 0, .int .u64 0] 93) (blk_lt F319.out)).trans F319.out
            have F327' := (heap_alloc_old (.cells #[.int .u64 0, .int .u64 0] 93) (blk_lt F320.out)).trans F320.out
            have F328' := heap_alloc_new w316 (.cells #[.int .u64 0, .int .u64 0] 93)
            have HB329' := HB321.out.alloc HB321.out.size (.cells #[.int .u64 0, .int .u64 0] 93)
            obtain ⟨V322, hV322⟩ : ∃ V, V = w316.alloc (.cells #[.int .u64 0, .int .u64 0] 93) := ⟨_, rfl⟩
            have Gp323 := Aside0.mk (show w.heap.size ≤ w316.heap.size from HB321.out.size)
            have Lp323_a := Aside0.mk (blk_lt F317.out)
            have Lp323_b := Aside0.mk (blk_lt F318.out)
            have Lp323_c := Aside0.mk (blk_lt F319.out)
            have Lp323_p5 := Aside0.mk (blk_lt F320.out)
            obtain ⟨p323, hp323⟩ : ∃ p, p = w316.heap.size := ⟨_, rfl⟩
            rw [← hp323, ← hV322]
            rw [← hp323, ← hV322] at F328'
            rw [← hp323] at Gp323 Lp323_a Lp323_b Lp323_c Lp323_p5
            rw [← hV322] at F324'
            have F324 := Aside0.mk F324'
            rw [← hV322] at F325'
            have F325 := Aside0.mk F325'
            rw [← hV322] at F326'
            have F326 := Aside0.mk F326'
            rw [← hV322] at F327'
            have F327 := Aside0.mk F327'
            have F328 := Aside0.mk F328'
            rw [← hV322] at HB329'
            have HB329 := Aside0.mk HB329'
            clear hV322 hp323 F324' F325' F326' F327' F328' HB329'
            refine hK.out _ _ (KA.out _ F324.out F325.out) (fun hHeld2 => ?_)
            clear hK K hHeld
            have hHeld := hHeld2
            clear hHeld2
            (try simp only [Act.put, g4, g5, g6])
            refine wpAnyH_ready (rs := [6]) (by kernel_rfl) (by simp) ?_
            refine AllReadyH.cons (o := ?ob48) ?hb48 (fun K hK => ?sb48) ?mb48
            case hb48 => simp only [g1, g2, g3]; rfl
            case sb48 =>
              have fz0 := blk_frozen F328.out 0
              have fz1 := blk_frozen F328.out 1
              have y0 := (blk_cell F328.out 0).trans rfl
              have y1 := (blk_cell F328.out 1).trans rfl
              go_simp
              clear fz0 fz1 y0 y1
              have F331' := blk_far (blk_far F324.out (p := ⟨p323, 0, none⟩) (by have := Lp323_a.out; show _ ≠ p323; omega) (.int .u64 l)) (p := ⟨p323, 1, none⟩) (by have := Lp323_a.out; show _ ≠ p323; omega) (.int .u64 h)
              have F332' := blk_far (blk_far F325.out (p := ⟨p323, 0, none⟩) (by have := Lp323_b.out; show _ ≠ p323; omega) (.int .u64 l)) (p := ⟨p323, 1, none⟩) (by have := Lp323_b.out; show _ ≠ p323; omega) (.int .u64 h)
              have F333' := blk_far (blk_far F326.out (p := ⟨p323, 0, none⟩) (by have := Lp323_c.out; show _ ≠ p323; omega) (.int .u64 l)) (p := ⟨p323, 1, none⟩) (by have := Lp323_c.out; show _ ≠ p323; omega) (.int .u64 h)
              have F334' := blk_far (blk_far F327.out (p := ⟨p323, 0, none⟩) (by show p304 ≠ p323; have := Lp323_p5.out; omega) (.int .u64 l)) (p := ⟨p323, 1, none⟩) (by show p304 ≠ p323; have := Lp323_p5.out; omega) (.int .u64 h)
              have F335' : ((V322.setCell ⟨p323, 0, none⟩ (.int .u64 l)).setCell ⟨p323, 1, none⟩ (.int .u64 h)).heap[p323]? = some (.cells #[.int .u64 l, .int .u64 h] 93 (0, 0)) := by have P := blk_set (blk_set F328.out 0 (.int .u64 l)) 1 (.int .u64 h); simpa using P
              have HB336' := bset (bset HB329.out Gp323.out 0 (.int .u64 l)) Gp323.out 1 (.int .u64 h)
              obtain ⟨V330, hV330⟩ : ∃ V, V = ((V322.setCell ⟨p323, 0, none⟩ (.int .u64 l)).setCell ⟨p323, 1, none⟩ (.int .u64 h)) := ⟨_, rfl⟩
              rw [← hV330]
              rw [← hV330] at F331'
              have F331 := Aside0.mk F331'
              clear F331'
              rw [← hV330] at F332'
              have F332 := Aside0.mk F332'
              clear F332'
              rw [← hV330] at F333'
              have F333 := Aside0.mk F333'
              clear F333'
              rw [← hV330] at F334'
              have F334 := Aside0.mk F334'
              clear F334'
              rw [← hV330] at F335'
              have F335 := Aside0.mk F335'
              clear F335'
              rw [← hV330] at HB336'
              have HB336 := Aside0.mk HB336'
              clear HB336'
              clear hV330
              refine hK.out _ _ (KA.out _ F331.out F332.out) (fun hHeld2 => ?_)
              clear hK K hHeld
              have hHeld := hHeld2
              clear hHeld2
              (try simp only [Act.put, g4, g5, g6])
              refine wpAnyH_ready (rs := [7]) (by kernel_rfl) (by simp) ?_
              refine AllReadyH.cons (o := ?ob49) ?hb49 (fun K hK => ?sb49) ?mb49
              case hb49 => simp only [g1, g2, g3]; rfl
              case sb49 =>
                have fz0 := blk_frozen F334.out 0
                have fz1 := blk_frozen F334.out 1
                have y0 := (blk_cell F334.out 0).trans rfl
                have y1 := (blk_cell F334.out 1).trans rfl
                go_simp
                clear fz0 fz1 y0 y1
                have F338' := blk_far (blk_far F331.out (p := ⟨p304, 0, none⟩) (by have := Lp304_a.out; show _ ≠ p304; omega) (.int .u64 l2)) (p := ⟨p304, 1, none⟩) (by have := Lp304_a.out; show _ ≠ p304; omega) (.int .u64 h2)
                have F339' := blk_far (blk_far F332.out (p := ⟨p304, 0, none⟩) (by have := Lp304_b.out; show _ ≠ p304; omega) (.int .u64 l2)) (p := ⟨p304, 1, none⟩) (by have := Lp304_b.out; show _ ≠ p304; omega) (.int .u64 h2)
                have F340' := blk_far (blk_far F333.out (p := ⟨p304, 0, none⟩) (by have := Lp304_c.out; show _ ≠ p304; omega) (.int .u64 l2)) (p := ⟨p304, 1, none⟩) (by have := Lp304_c.out; show _ ≠ p304; omega) (.int .u64 h2)
                have F341' : ((V330.setCell ⟨p304, 0, none⟩ (.int .u64 l2)).setCell ⟨p304, 1, none⟩ (.int .u64 h2)).heap[p304]? = some (.cells #[.int .u64 l2, .int .u64 h2] 93 (0, 0)) := by have P := blk_set (blk_set F334.out 0 (.int .u64 l2)) 1 (.int .u64 h2); simpa using P
                have F342' := blk_far (blk_far F335.out (p := ⟨p304, 0, none⟩) (by show p323 ≠ p304; have := Lp323_p5.out; omega) (.int .u64 l2)) (p := ⟨p304, 1, none⟩) (by show p323 ≠ p304; have := Lp323_p5.out; omega) (.int .u64 h2)
                have HB343' := bset (bset HB336.out Gp304.out 0 (.int .u64 l2)) Gp304.out 1 (.int .u64 h2)
                obtain ⟨V337, hV337⟩ : ∃ V, V = ((V330.setCell ⟨p304, 0, none⟩ (.int .u64 l2)).setCell ⟨p304, 1, none⟩ (.int .u64 h2)) := ⟨_, rfl⟩
                rw [← hV337]
                rw [← hV337] at F338'
                have F338 := Aside0.mk F338'
                clear F338'
                rw [← hV337] at F339'
                have F339 := Aside0.mk F339'
                clear F339'
                rw [← hV337] at F340'
                have F340 := Aside0.mk F340'
                clear F340'
                rw [← hV337] at F341'
                have F341 := Aside0.mk F341'
                clear F341'
                rw [← hV337] at F342'
                have F342 := Aside0.mk F342'
                clear F342'
                rw [← hV337] at HB343'
                have HB343 := Aside0.mk HB343'
                clear HB343'
                clear hV337
                refine hK.out _ _ (KA.out _ F338.out F339.out) (fun hHeld2 => ?_)
                clear hK K hHeld
                have hHeld := hHeld2
                clear hHeld2
                (try simp only [Act.put, g4, g5, g6])
                refine wpAnyH_done (by kernel_rfl) ?_ _
                go_wp2
                go_meet
                case rel => exact ⟨p323, p304, rfl, rfl, (by have := Lp323_p5.out; omega), (by have := Lp323_c.out; omega), (by have := Lp304_c.out; omega), F340.out, F342.out, F341.out, HB343.out⟩
              exact AllReadyH.nil
            exact AllReadyH.nil
          exact AllReadyH.nil
        refine AllReadyH.cons (o := ?ob50) ?hb50 (fun K hK => ?sb50) ?mb50
        case hb50 => simp only [g1, g2, g3]; rfl
        case sb50 =>
          go_simp
          have F346' := (heap_alloc_old (.cells #[.int .u64 0, .int .u64 0] 93) (blk_lt F311.out)).trans F311.out
          have F347' := (heap_alloc_old (.cells #[.int .u64 0, .int .u64 0] 93) (blk_lt F312.out)).trans F312.out
          have F348' := (heap_alloc_old (.cells #[.int .u64 0, .int .u64 0] 93) (blk_lt F313.out)).trans F313.out
          have F349' := (heap_alloc_old (.cells #[.int .u64 0, .int .u64 0] 93) (blk_lt F314.out)).trans F314.out
          have F350' := heap_alloc_new w310 (.cells #[.int .u64 0, .int .u64 0] 93)
          have HB351' := HB315.out.alloc HB315.out.size (.cells #[.int .u64 0, .int .u64 0] 93)
          obtain ⟨V344, hV344⟩ : ∃ V, V = w310.alloc (.cells #[.int .u64 0, .int .u64 0] 93) := ⟨_, rfl⟩
          have Gp345 := Aside0.mk (show w.heap.size ≤ w310.heap.size from HB315.out.size)
          have Lp345_a := Aside0.mk (blk_lt F311.out)
          have Lp345_b := Aside0.mk (blk_lt F312.out)
          have Lp345_c := Aside0.mk (blk_lt F313.out)
          have Lp345_p5 := Aside0.mk (blk_lt F314.out)
          obtain ⟨p345, hp345⟩ : ∃ p, p = w310.heap.size := ⟨_, rfl⟩
          rw [← hp345, ← hV344]
          rw [← hp345, ← hV344] at F350'
          rw [← hp345] at Gp345 Lp345_a Lp345_b Lp345_c Lp345_p5
          rw [← hV344] at F346'
          have F346 := Aside0.mk F346'
          rw [← hV344] at F347'
          have F347 := Aside0.mk F347'
          rw [← hV344] at F348'
          have F348 := Aside0.mk F348'
          rw [← hV344] at F349'
          have F349 := Aside0.mk F349'
          have F350 := Aside0.mk F350'
          rw [← hV344] at HB351'
          have HB351 := Aside0.mk HB351'
          clear hV344 hp345 F346' F347' F348' F349' F350' HB351'
          refine hK.out _ _ (KA.out _ F346.out F347.out) (fun hHeld2 => ?_)
          clear hK K hHeld
          have hHeld := hHeld2
          clear hHeld2
          (try simp only [Act.put, g4, g5, g6])
          refine wpAnyH_ready (rs := [3]) (by kernel_rfl) (by simp) ?_
          refine AllReadyH.cons (o := ?ob51) ?hb51 (fun K hK => ?sb51) ?mb51
          case hb51 => simp only [g1, g2, g3]; rfl
          case sb51 =>
            go_simp
            refine (words_calls h2 l2 _).mono ?_
            rintro e w352 ⟨rfl, hb⟩
            have F353 := Aside0.mk ((hb.block _ (blk_lt F346.out)).trans F346.out)
            have F354 := Aside0.mk ((hb.block _ (blk_lt F347.out)).trans F347.out)
            have F355 := Aside0.mk ((hb.block _ (blk_lt F348.out)).trans F348.out)
            have F356 := Aside0.mk ((hb.block _ (blk_lt F349.out)).trans F349.out)
            have F357 := Aside0.mk ((hb.block _ (blk_lt F350.out)).trans F350.out)
            have HB358 := Aside0.mk (below_then HB351.out HB351.out.size hb)
            clear hb
            refine hK.out _ _ (KA.out _ F353.out F354.out) (fun hHeld2 => ?_)
            clear hK K hHeld
            have hHeld := hHeld2
            clear hHeld2
            (try simp only [Act.put, g4, g5, g6])
            refine wpAnyH_ready (rs := [6]) (by kernel_rfl) (by simp) ?_
            refine AllReadyH.cons (o := ?ob52) ?hb52 (fun K hK => ?sb52) ?mb52
            case hb52 => simp only [g1, g2, g3]; rfl
            case sb52 =>
              have fz0 := blk_frozen F357.out 0
              have fz1 := blk_frozen F357.out 1
              have y0 := (blk_cell F357.out 0).trans rfl
              have y1 := (blk_cell F357.out 1).trans rfl
              go_simp
              clear fz0 fz1 y0 y1
              have F360' := blk_far (blk_far F353.out (p := ⟨p345, 0, none⟩) (by have := Lp345_a.out; show _ ≠ p345; omega) (.int .u64 l)) (p := ⟨p345, 1, none⟩) (by have := Lp345_a.out; show _ ≠ p345; omega) (.int .u64 h)
              have F361' := blk_far (blk_far F354.out (p := ⟨p345, 0, none⟩) (by have := Lp345_b.out; show _ ≠ p345; omega) (.int .u64 l)) (p := ⟨p345, 1, none⟩) (by have := Lp345_b.out; show _ ≠ p345; omega) (.int .u64 h)
              have F362' := blk_far (blk_far F355.out (p := ⟨p345, 0, none⟩) (by have := Lp345_c.out; show _ ≠ p345; omega) (.int .u64 l)) (p := ⟨p345, 1, none⟩) (by have := Lp345_c.out; show _ ≠ p345; omega) (.int .u64 h)
              have F363' := blk_far (blk_far F356.out (p := ⟨p345, 0, none⟩) (by show p304 ≠ p345; have := Lp345_p5.out; omega) (.int .u64 l)) (p := ⟨p345, 1, none⟩) (by show p304 ≠ p345; have := Lp345_p5.out; omega) (.int .u64 h)
              have F364' : ((w352.setCell ⟨p345, 0, none⟩ (.int .u64 l)).setCell ⟨p345, 1, none⟩ (.int .u64 h)).heap[p345]? = some (.cells #[.int .u64 l, .int .u64 h] 93 (0, 0)) := by have P := blk_set (blk_set F357.out 0 (.int .u64 l)) 1 (.int .u64 h); simpa using P
              have HB365' := bset (bset HB358.out Gp345.out 0 (.int .u64 l)) Gp345.out 1 (.int .u64 h)
              obtain ⟨V359, hV359⟩ : ∃ V, V = ((w352.setCell ⟨p345, 0, none⟩ (.int .u64 l)).setCell ⟨p345, 1, none⟩ (.int .u64 h)) := ⟨_, rfl⟩
              rw [← hV359]
              rw [← hV359] at F360'
              have F360 := Aside0.mk F360'
              clear F360'
              rw [← hV359] at F361'
              have F361 := Aside0.mk F361'
              clear F361'
              rw [← hV359] at F362'
              have F362 := Aside0.mk F362'
              clear F362'
              rw [← hV359] at F363'
              have F363 := Aside0.mk F363'
              clear F363'
              rw [← hV359] at F364'
              have F364 := Aside0.mk F364'
              clear F364'
              rw [← hV359] at HB365'
              have HB365 := Aside0.mk HB365'
              clear HB365'
              clear hV359
              refine hK.out _ _ (KA.out _ F360.out F361.out) (fun hHeld2 => ?_)
              clear hK K hHeld
              have hHeld := hHeld2
              clear hHeld2
              (try simp only [Act.put, g4, g5, g6])
              refine wpAnyH_ready (rs := [7]) (by kernel_rfl) (by simp) ?_
              refine AllReadyH.cons (o := ?ob53) ?hb53 (fun K hK => ?sb53) ?mb53
              case hb53 => simp only [g1, g2, g3]; rfl
              case sb53 =>
                have fz0 := blk_frozen F363.out 0
                have fz1 := blk_frozen F363.out 1
                have y0 := (blk_cell F363.out 0).trans rfl
                have y1 := (blk_cell F363.out 1).trans rfl
                go_simp
                clear fz0 fz1 y0 y1
                have F367' := blk_far (blk_far F360.out (p := ⟨p304, 0, none⟩) (by have := Lp304_a.out; show _ ≠ p304; omega) (.int .u64 l2)) (p := ⟨p304, 1, none⟩) (by have := Lp304_a.out; show _ ≠ p304; omega) (.int .u64 h2)
                have F368' := blk_far (blk_far F361.out (p := ⟨p304, 0, none⟩) (by have := Lp304_b.out; show _ ≠ p304; omega) (.int .u64 l2)) (p := ⟨p304, 1, none⟩) (by have := Lp304_b.out; show _ ≠ p304; omega) (.int .u64 h2)
                have F369' := blk_far (blk_far F362.out (p := ⟨p304, 0, none⟩) (by have := Lp304_c.out; show _ ≠ p304; omega) (.int .u64 l2)) (p := ⟨p304, 1, none⟩) (by have := Lp304_c.out; show _ ≠ p304; omega) (.int .u64 h2)
                have F370' : ((V359.setCell ⟨p304, 0, none⟩ (.int .u64 l2)).setCell ⟨p304, 1, none⟩ (.int .u64 h2)).heap[p304]? = some (.cells #[.int .u64 l2, .int .u64 h2] 93 (0, 0)) := by have P := blk_set (blk_set F363.out 0 (.int .u64 l2)) 1 (.int .u64 h2); simpa using P
                have F371' := blk_far (blk_far F364.out (p := ⟨p304, 0, none⟩) (by show p345 ≠ p304; have := Lp345_p5.out; omega) (.int .u64 l2)) (p := ⟨p304, 1, none⟩) (by show p345 ≠ p304; have := Lp345_p5.out; omega) (.int .u64 h2)
                have HB372' := bset (bset HB365.out Gp304.out 0 (.int .u64 l2)) Gp304.out 1 (.int .u64 h2)
                obtain ⟨V366, hV366⟩ : ∃ V, V = ((V359.setCell ⟨p304, 0, none⟩ (.int .u64 l2)).setCell ⟨p304, 1, none⟩ (.int .u64 h2)) := ⟨_, rfl⟩
                rw [← hV366]
                rw [← hV366] at F367'
                have F367 := Aside0.mk F367'
                clear F367'
                rw [← hV366] at F368'
                have F368 := Aside0.mk F368'
                clear F368'
                rw [← hV366] at F369'
                have F369 := Aside0.mk F369'
                clear F369'
                rw [← hV366] at F370'
                have F370 := Aside0.mk F370'
                clear F370'
                rw [← hV366] at F371'
                have F371 := Aside0.mk F371'
                clear F371'
                rw [← hV366] at HB372'
                have HB372 := Aside0.mk HB372'
                clear HB372'
                clear hV366
                refine hK.out _ _ (KA.out _ F367.out F368.out) (fun hHeld2 => ?_)
                clear hK K hHeld
                have hHeld := hHeld2
                clear hHeld2
                (try simp only [Act.put, g4, g5, g6])
                refine wpAnyH_done (by kernel_rfl) ?_ _
                go_wp2
                go_meet
                case rel => exact ⟨p345, p304, rfl, rfl, (by have := Lp345_p5.out; omega), (by have := Lp345_c.out; omega), (by have := Lp304_c.out; omega), F369.out, F371.out, F370.out, HB372.out⟩
              exact AllReadyH.nil
            exact AllReadyH.nil
          exact AllReadyH.nil
        exact AllReadyH.nil
      refine AllReadyH.cons (o := ?ob54) ?hb54 (fun K hK => ?sb54) ?mb54
      case hb54 => simp only [g1, g2, g3]; rfl
      case sb54 =>
        go_simp
        have F375' := (heap_alloc_old (.cells #[.int .u64 0, .int .u64 0] 93) (blk_lt F305.out)).trans F305.out
        have F376' := (heap_alloc_old (.cells #[.int .u64 0, .int .u64 0] 93) (blk_lt F306.out)).trans F306.out
        have F377' := (heap_alloc_old (.cells #[.int .u64 0, .int .u64 0] 93) (blk_lt F307.out)).trans F307.out
        have F378' := (heap_alloc_old (.cells #[.int .u64 0, .int .u64 0] 93) (blk_lt F308.out)).trans F308.out
        have F379' := heap_alloc_new V303 (.cells #[.int .u64 0, .int .u64 0] 93)
        have HB380' := HB309.out.alloc HB309.out.size (.cells #[.int .u64 0, .int .u64 0] 93)
        obtain ⟨V373, hV373⟩ : ∃ V, V = V303.alloc (.cells #[.int .u64 0, .int .u64 0] 93) := ⟨_, rfl⟩
        have Gp374 := Aside0.mk (show w.heap.size ≤ V303.heap.size from HB309.out.size)
        have Lp374_a := Aside0.mk (blk_lt F305.out)
        have Lp374_b := Aside0.mk (blk_lt F306.out)
        have Lp374_c := Aside0.mk (blk_lt F307.out)
        have Lp374_p5 := Aside0.mk (blk_lt F308.out)
        obtain ⟨p374, hp374⟩ : ∃ p, p = V303.heap.size := ⟨_, rfl⟩
        rw [← hp374, ← hV373]
        rw [← hp374, ← hV373] at F379'
        rw [← hp374] at Gp374 Lp374_a Lp374_b Lp374_c Lp374_p5
        rw [← hV373] at F375'
        have F375 := Aside0.mk F375'
        rw [← hV373] at F376'
        have F376 := Aside0.mk F376'
        rw [← hV373] at F377'
        have F377 := Aside0.mk F377'
        rw [← hV373] at F378'
        have F378 := Aside0.mk F378'
        have F379 := Aside0.mk F379'
        rw [← hV373] at HB380'
        have HB380 := Aside0.mk HB380'
        clear hV373 hp374 F375' F376' F377' F378' F379' HB380'
        refine hK.out _ _ (KA.out _ F375.out F376.out) (fun hHeld2 => ?_)
        clear hK K hHeld
        have hHeld := hHeld2
        clear hHeld2
        (try simp only [Act.put, g4, g5, g6])
        refine wpAnyH_ready (rs := [1]) (by kernel_rfl) (by simp) ?_
        refine AllReadyH.cons (o := ?ob55) ?hb55 (fun K hK => ?sb55) ?mb55
        case hb55 => simp only [g1, g2, g3]; rfl
        case sb55 =>
          go_simp
          refine (words_calls h l _).mono ?_
          rintro e w381 ⟨rfl, hb⟩
          have F382 := Aside0.mk ((hb.block _ (blk_lt F375.out)).trans F375.out)
          have F383 := Aside0.mk ((hb.block _ (blk_lt F376.out)).trans F376.out)
          have F384 := Aside0.mk ((hb.block _ (blk_lt F377.out)).trans F377.out)
          have F385 := Aside0.mk ((hb.block _ (blk_lt F378.out)).trans F378.out)
          have F386 := Aside0.mk ((hb.block _ (blk_lt F379.out)).trans F379.out)
          have HB387 := Aside0.mk (below_then HB380.out HB380.out.size hb)
          clear hb
          refine hK.out _ _ (KA.out _ F382.out F383.out) (fun hHeld2 => ?_)
          clear hK K hHeld
          have hHeld := hHeld2
          clear hHeld2
          (try simp only [Act.put, g4, g5, g6])
          refine wpAnyH_ready (rs := [3]) (by kernel_rfl) (by simp) ?_
          refine AllReadyH.cons (o := ?ob56) ?hb56 (fun K hK => ?sb56) ?mb56
          case hb56 => simp only [g1, g2, g3]; rfl
          case sb56 =>
            go_simp
            refine (words_calls h2 l2 _).mono ?_
            rintro e w388 ⟨rfl, hb⟩
            have F389 := Aside0.mk ((hb.block _ (blk_lt F382.out)).trans F382.out)
            have F390 := Aside0.mk ((hb.block _ (blk_lt F383.out)).trans F383.out)
            have F391 := Aside0.mk ((hb.block _ (blk_lt F384.out)).trans F384.out)
            have F392 := Aside0.mk ((hb.block _ (blk_lt F385.out)).trans F385.out)
            have F393 := Aside0.mk ((hb.block _ (blk_lt F386.out)).trans F386.out)
            have HB394 := Aside0.mk (below_then HB387.out HB387.out.size hb)
            clear hb
            refine hK.out _ _ (KA.out _ F389.out F390.out) (fun hHeld2 => ?_)
            clear hK K hHeld
            have hHeld := hHeld2
            clear hHeld2
            (try simp only [Act.put, g4, g5, g6])
            refine wpAnyH_ready (rs := [6]) (by kernel_rfl) (by simp) ?_
            refine AllReadyH.cons (o := ?ob57) ?hb57 (fun K hK => ?sb57) ?mb57
            case hb57 => simp only [g1, g2, g3]; rfl
            case sb57 =>
              have fz0 := blk_frozen F393.out 0
              have fz1 := blk_frozen F393.out 1
              have y0 := (blk_cell F393.out 0).trans rfl
              have y1 := (blk_cell F393.out 1).trans rfl
              go_simp
              clear fz0 fz1 y0 y1
              have F396' := blk_far (blk_far F389.out (p := ⟨p374, 0, none⟩) (by have := Lp374_a.out; show _ ≠ p374; omega) (.int .u64 l)) (p := ⟨p374, 1, none⟩) (by have := Lp374_a.out; show _ ≠ p374; omega) (.int .u64 h)
              have F397' := blk_far (blk_far F390.out (p := ⟨p374, 0, none⟩) (by have := Lp374_b.out; show _ ≠ p374; omega) (.int .u64 l)) (p := ⟨p374, 1, none⟩) (by have := Lp374_b.out; show _ ≠ p374; omega) (.int .u64 h)
              have F398' := blk_far (blk_far F391.out (p := ⟨p374, 0, none⟩) (by have := Lp374_c.out; show _ ≠ p374; omega) (.int .u64 l)) (p := ⟨p374, 1, none⟩) (by have := Lp374_c.out; show _ ≠ p374; omega) (.int .u64 h)
              have F399' := blk_far (blk_far F392.out (p := ⟨p374, 0, none⟩) (by show p304 ≠ p374; have := Lp374_p5.out; omega) (.int .u64 l)) (p := ⟨p374, 1, none⟩) (by show p304 ≠ p374; have := Lp374_p5.out; omega) (.int .u64 h)
              have F400' : ((w388.setCell ⟨p374, 0, none⟩ (.int .u64 l)).setCell ⟨p374, 1, none⟩ (.int .u64 h)).heap[p374]? = some (.cells #[.int .u64 l, .int .u64 h] 93 (0, 0)) := by have P := blk_set (blk_set F393.out 0 (.int .u64 l)) 1 (.int .u64 h); simpa using P
              have HB401' := bset (bset HB394.out Gp374.out 0 (.int .u64 l)) Gp374.out 1 (.int .u64 h)
              obtain ⟨V395, hV395⟩ : ∃ V, V = ((w388.setCell ⟨p374, 0, none⟩ (.int .u64 l)).setCell ⟨p374, 1, none⟩ (.int .u64 h)) := ⟨_, rfl⟩
              rw [← hV395]
              rw [← hV395] at F396'
              have F396 := Aside0.mk F396'
              clear F396'
              rw [← hV395] at F397'
              have F397 := Aside0.mk F397'
              clear F397'
              rw [← hV395] at F398'
              have F398 := Aside0.mk F398'
              clear F398'
              rw [← hV395] at F399'
              have F399 := Aside0.mk F399'
              clear F399'
              rw [← hV395] at F400'
              have F400 := Aside0.mk F400'
              clear F400'
              rw [← hV395] at HB401'
              have HB401 := Aside0.mk HB401'
              clear HB401'
              clear hV395
              refine hK.out _ _ (KA.out _ F396.out F397.out) (fun hHeld2 => ?_)
              clear hK K hHeld
              have hHeld := hHeld2
              clear hHeld2
              (try simp only [Act.put, g4, g5, g6])
              refine wpAnyH_ready (rs := [7]) (by kernel_rfl) (by simp) ?_
              refine AllReadyH.cons (o := ?ob58) ?hb58 (fun K hK => ?sb58) ?mb58
              case hb58 => simp only [g1, g2, g3]; rfl
              case sb58 =>
                have fz0 := blk_frozen F399.out 0
                have fz1 := blk_frozen F399.out 1
                have y0 := (blk_cell F399.out 0).trans rfl
                have y1 := (blk_cell F399.out 1).trans rfl
                go_simp
                clear fz0 fz1 y0 y1
                have F403' := blk_far (blk_far F396.out (p := ⟨p304, 0, none⟩) (by have := Lp304_a.out; show _ ≠ p304; omega) (.int .u64 l2)) (p := ⟨p304, 1, none⟩) (by have := Lp304_a.out; show _ ≠ p304; omega) (.int .u64 h2)
                have F404' := blk_far (blk_far F397.out (p := ⟨p304, 0, none⟩) (by have := Lp304_b.out; show _ ≠ p304; omega) (.int .u64 l2)) (p := ⟨p304, 1, none⟩) (by have := Lp304_b.out; show _ ≠ p304; omega) (.int .u64 h2)
                have F405' := blk_far (blk_far F398.out (p := ⟨p304, 0, none⟩) (by have := Lp304_c.out; show _ ≠ p304; omega) (.int .u64 l2)) (p := ⟨p304, 1, none⟩) (by have := Lp304_c.out; show _ ≠ p304; omega) (.int .u64 h2)
                have F406' : ((V395.setCell ⟨p304, 0, none⟩ (.int .u64 l2)).setCell ⟨p304, 1, none⟩ (.int .u64 h2)).heap[p304]? = some (.cells #[.int .u64 l2, .int .u64 h2] 93 (0, 0)) := by have P := blk_set (blk_set F399.out 0 (.int .u64 l2)) 1 (.int .u64 h2); simpa using P
                have F407' := blk_far (blk_far F400.out (p := ⟨p304, 0, none⟩) (by show p374 ≠ p304; have := Lp374_p5.out; omega) (.int .u64 l2)) (p := ⟨p304, 1, none⟩) (by show p374 ≠ p304; have := Lp374_p5.out; omega) (.int .u64 h2)
                have HB408' := bset (bset HB401.out Gp304.out 0 (.int .u64 l2)) Gp304.out 1 (.int .u64 h2)
                obtain ⟨V402, hV402⟩ : ∃ V, V = ((V395.setCell ⟨p304, 0, none⟩ (.int .u64 l2)).setCell ⟨p304, 1, none⟩ (.int .u64 h2)) := ⟨_, rfl⟩
                rw [← hV402]
                rw [← hV402] at F403'
                have F403 := Aside0.mk F403'
                clear F403'
                rw [← hV402] at F404'
                have F404 := Aside0.mk F404'
                clear F404'
                rw [← hV402] at F405'
                have F405 := Aside0.mk F405'
                clear F405'
                rw [← hV402] at F406'
                have F406 := Aside0.mk F406'
                clear F406'
                rw [← hV402] at F407'
                have F407 := Aside0.mk F407'
                clear F407'
                rw [← hV402] at HB408'
                have HB408 := Aside0.mk HB408'
                clear HB408'
                clear hV402
                refine hK.out _ _ (KA.out _ F403.out F404.out) (fun hHeld2 => ?_)
                clear hK K hHeld
                have hHeld := hHeld2
                clear hHeld2
                (try simp only [Act.put, g4, g5, g6])
                refine wpAnyH_done (by kernel_rfl) ?_ _
                go_wp2
                go_meet
                case rel => exact ⟨p374, p304, rfl, rfl, (by have := Lp374_p5.out; omega), (by have := Lp374_c.out; omega), (by have := Lp304_c.out; omega), F405.out, F407.out, F406.out, HB408.out⟩
              exact AllReadyH.nil
            exact AllReadyH.nil
          exact AllReadyH.nil
        exact AllReadyH.nil
      exact AllReadyH.nil
    exact AllReadyH.nil
  obtain ⟨p, q, rfl, rfl, npq, cp, cq, fc, fp, fq, hb⟩ := hcut
  have LL := Aside0.mk (And.intro npq (And.intro cp cq))
  have ST := Aside0.mk (And.intro fc (And.intro fp (And.intro fq hb)))
  clear npq cp cq fc fp fq hb
  go_wp2
  go_loopg [7, 13] 3 (fun k c j wr => ∃ (cc jj x y : Int), c = .int .u64 cc ∧ 0 ≤ cc ∧ cc ≤ 1 ∧ j = .int .i64 jj ∧ 0 ≤ jj ∧ jj ≤ 2 ∧ jj + k = 3 ∧ u64 x ∧ u64 y ∧ wr.heap[w.heap.size + 1 + 1]? = some (.cells #[.int .u64 0, .int .u64 0] 98 (0, 0)) ∧ wr.heap[p]? = some (.cells #[.int .u64 x, .int .u64 y] 93 (0, 0)) ∧ wr.heap[q]? = some (.cells #[.int .u64 l2, .int .u64 h2] 93 (0, 0)) ∧ Below w.heap.size w wr)
  case atStart => exact ⟨0, 0, l, h, rfl, (by decide), (by decide), rfl, (by decide), (by decide), (by decide), HH.out.1.2, HH.out.1.1, ST.out.1, ST.out.2.1, ST.out.2.2.1, ST.out.2.2.2⟩
  case round =>
    obtain ⟨cc, jj, x, y, rfl, c0, c1, rfl, j0, j2, jk, ux, uy, fc, fp, fq, hb⟩ := hrel
    have RR := Aside0.mk (And.intro ux (And.intro uy (And.intro c0 c1)))
    have RS := Aside0.mk (And.intro fc (And.intro fp (And.intro fq hb)))
    clear ux uy fc fp fq hb c0 c1 ST
    have jc : jj = 0 ∨ jj = 1 ∨ jj = 2 := by omega
    rcases jc with rfl | rfl | rfl
    · have JK := Aside0.mk jk
      clear jk j0 j2
      go_wp2
      refine wp_region_held_drew (S := fun W => W.cell? ⟨q, 0, none⟩ = some (.int .u64 l2)) (by kernel_rfl) ((blk_cell RS.out.2.2.1 0).trans rfl) (fun hHeld => ?_)
      refine tk (i := 0) ?_
      (try simp only [Act.put, g4, g5, g6])
      refine tk (i := 1) ?_
      (try simp only [Act.put, g4, g5, g6])
      refine tk (i := 2) ?_
      (try simp only [Act.put, g4, g5, g6])
      refine tk (i := 4) ?_
      (try simp only [Act.put, g4, g5, g6])
      refine tk (i := 5) ?_
      (try simp only [Act.put, g4, g5, g6])
      refine tk (i := 6) ?_
      (try simp only [Act.put, g4, g5, g6])
      refine tk (i := 7) ?_
      (try simp only [Act.put, g4, g5, g6])
      refine wpAnyH_ready (rs := [3]) (by kernel_rfl) (by simp) ?_
      refine AllReadyH.cons (o := ?ob59) ?hb59 (fun K hK => ?sb59) ?mb59
      case hb59 => simp only [g1, g2, g3]; rfl
      case sb59 =>
        have cp : wr.drew.cell? ⟨p, 0, none⟩ = some (.int .u64 x) := (blk_cell RS.out.2.1 0).trans rfl
        go_simp
        clear cp
        refine hK.out _ _ ((blk_cell RS.out.2.2.1 0).trans rfl) (fun hHeld2 => ?_)
        clear hK K hHeld
        have hHeld := hHeld2
        clear hHeld2
        (try simp only [Act.put, g4, g5, g6])
        refine wpAnyH_ready (rs := [8]) (by kernel_rfl) (by simp) ?_
        refine AllReadyH.cons (o := ?ob60) ?hb60 (fun K hK => ?sb60) ?mb60
        case hb60 => simp only [g1, g2, g3]; rfl
        case sb60 =>
          obtain ⟨r, d, hr, ur, d0, d1⟩ := Add64_run x l2 cc RR.out.1 HH.out.2.2 RR.out.2.2.1 RR.out.2.2.2 wr.drew
          have RD := Aside0.mk (And.intro ur (And.intro d0 d1))
          clear ur d0 d1
          go_simp
          clear hr
          refine hK.out _ _ ((blk_cell RS.out.2.2.1 0).trans rfl) (fun hHeld2 => ?_)
          clear hK K hHeld
          have hHeld := hHeld2
          clear hHeld2
          (try simp only [Act.put, g4, g5, g6])
          refine tk (i := 9) ?_
          (try simp only [Act.put, g4, g5, g6])
          refine tk (i := 10) ?_
          (try simp only [Act.put, g4, g5, g6])
          refine tk (i := 11) ?_
          (try simp only [Act.put, g4, g5, g6])
          refine tk (i := 12) ?_
          (try simp only [Act.put, g4, g5, g6])
          refine wpAnyH_ready (rs := [13]) (by kernel_rfl) (by simp) ?_
          refine AllReadyH.cons (o := ?ob61) ?hb61 (fun K hK => ?sb61) ?mb61
          case hb61 => simp only [g1, g2, g3]; rfl
          case sb61 =>
            have fz : wr.drew.frozen? ⟨p, 0, none⟩ = false := blk_frozen RS.out.2.1 0
            have cp : wr.drew.cell? ⟨p, 0, none⟩ = some (.int .u64 x) := (blk_cell RS.out.2.1 0).trans rfl
            go_simp
            clear fz cp
            refine hK.out _ _ ((blk_cell (blk_far (w := wr.drew) RS.out.2.2.1 (p := ⟨p, 0, none⟩) (fun e => LL.out.1 e.symm) (.int .u64 r)) 0).trans rfl) (fun hHeld2 => ?_)
            clear hK K hHeld
            have hHeld := hHeld2
            clear hHeld2
            (try simp only [Act.put, g4, g5, g6])
            refine tk (i := 14) ?_
            (try simp only [Act.put, g4, g5, g6])
            refine wpAnyH_done (by kernel_rfl) ?_ _
            go_wp2
            go_roundg 2
            case measure => have := JK.out; omega
            case rel => exact ⟨d, 1, r, y, rfl, RD.out.2.1, RD.out.2.2, rfl, (by decide), (by decide), (by have := JK.out; omega), RD.out.1, RR.out.2.1, blk_far (w := wr.drew) RS.out.1 (p := ⟨p, 0, none⟩) (by have := LL.out.2.1; show _ ≠ p; omega) _, (show (wr.drew.setCell ⟨p, 0, none⟩ (.int .u64 r)).heap[p]? = some (.cells #[.int .u64 r, .int .u64 y] 93 (0, 0)) by have P := blk_set (w := wr.drew) RS.out.2.1 0 (.int .u64 r); simpa using P), blk_far (w := wr.drew) RS.out.2.2.1 (p := ⟨p, 0, none⟩) (fun e => LL.out.1 e.symm) _, bset (below_drew RS.out.2.2.2) (by have := LL.out.2.1; omega) 0 _⟩
          exact AllReadyH.nil
        exact AllReadyH.nil
      exact AllReadyH.nil
    · have JK := Aside0.mk jk
      clear jk j0 j2
      go_wp2
      refine wp_region_held_drew (S := fun W => W.cell? ⟨q, 1, none⟩ = some (.int .u64 h2)) (by kernel_rfl) ((blk_cell RS.out.2.2.1 1).trans rfl) (fun hHeld => ?_)
      refine tk (i := 0) ?_
      (try simp only [Act.put, g4, g5, g6])
      refine tk (i := 1) ?_
      (try simp only [Act.put, g4, g5, g6])
      refine tk (i := 2) ?_
      (try simp only [Act.put, g4, g5, g6])
      refine tk (i := 4) ?_
      (try simp only [Act.put, g4, g5, g6])
      refine tk (i := 5) ?_
      (try simp only [Act.put, g4, g5, g6])
      refine tk (i := 6) ?_
      (try simp only [Act.put, g4, g5, g6])
      refine tk (i := 7) ?_
      (try simp only [Act.put, g4, g5, g6])
      refine wpAnyH_ready (rs := [3]) (by kernel_rfl) (by simp) ?_
      refine AllReadyH.cons (o := ?ob62) ?hb62 (fun K hK => ?sb62) ?mb62
      case hb62 => simp only [g1, g2, g3]; rfl
      case sb62 =>
        have cp : wr.drew.cell? ⟨p, 1, none⟩ = some (.int .u64 y) := (blk_cell RS.out.2.1 1).trans rfl
        go_simp
        clear cp
        refine hK.out _ _ ((blk_cell RS.out.2.2.1 1).trans rfl) (fun hHeld2 => ?_)
        clear hK K hHeld
        have hHeld := hHeld2
        clear hHeld2
        (try simp only [Act.put, g4, g5, g6])
        refine wpAnyH_ready (rs := [8]) (by kernel_rfl) (by simp) ?_
        refine AllReadyH.cons (o := ?ob63) ?hb63 (fun K hK => ?sb63) ?mb63
        case hb63 => simp only [g1, g2, g3]; rfl
        case sb63 =>
          obtain ⟨r, d, hr, ur, d0, d1⟩ := Add64_run y h2 cc RR.out.2.1 HH.out.2.1 RR.out.2.2.1 RR.out.2.2.2 wr.drew
          have RD := Aside0.mk (And.intro ur (And.intro d0 d1))
          clear ur d0 d1
          go_simp
          clear hr
          refine hK.out _ _ ((blk_cell RS.out.2.2.1 1).trans rfl) (fun hHeld2 => ?_)
          clear hK K hHeld
          have hHeld := hHeld2
          clear hHeld2
          (try simp only [Act.put, g4, g5, g6])
          refine tk (i := 9) ?_
          (try simp only [Act.put, g4, g5, g6])
          refine tk (i := 10) ?_
          (try simp only [Act.put, g4, g5, g6])
          refine tk (i := 11) ?_
          (try simp only [Act.put, g4, g5, g6])
          refine tk (i := 12) ?_
          (try simp only [Act.put, g4, g5, g6])
          refine wpAnyH_ready (rs := [13]) (by kernel_rfl) (by simp) ?_
          refine AllReadyH.cons (o := ?ob64) ?hb64 (fun K hK => ?sb64) ?mb64
          case hb64 => simp only [g1, g2, g3]; rfl
          case sb64 =>
            have fz : wr.drew.frozen? ⟨p, 1, none⟩ = false := blk_frozen RS.out.2.1 1
            have cp : wr.drew.cell? ⟨p, 1, none⟩ = some (.int .u64 y) := (blk_cell RS.out.2.1 1).trans rfl
            go_simp
            clear fz cp
            refine hK.out _ _ ((blk_cell (blk_far (w := wr.drew) RS.out.2.2.1 (p := ⟨p, 1, none⟩) (fun e => LL.out.1 e.symm) (.int .u64 r)) 1).trans rfl) (fun hHeld2 => ?_)
            clear hK K hHeld
            have hHeld := hHeld2
            clear hHeld2
            (try simp only [Act.put, g4, g5, g6])
            refine tk (i := 14) ?_
            (try simp only [Act.put, g4, g5, g6])
            refine wpAnyH_done (by kernel_rfl) ?_ _
            go_wp2
            go_roundg 1
            case measure => have := JK.out; omega
            case rel => exact ⟨d, 2, x, r, rfl, RD.out.2.1, RD.out.2.2, rfl, (by decide), (by decide), (by have := JK.out; omega), RR.out.1, RD.out.1, blk_far (w := wr.drew) RS.out.1 (p := ⟨p, 1, none⟩) (by have := LL.out.2.1; show _ ≠ p; omega) _, (show (wr.drew.setCell ⟨p, 1, none⟩ (.int .u64 r)).heap[p]? = some (.cells #[.int .u64 x, .int .u64 r] 93 (0, 0)) by have P := blk_set (w := wr.drew) RS.out.2.1 1 (.int .u64 r); simpa using P), blk_far (w := wr.drew) RS.out.2.2.1 (p := ⟨p, 1, none⟩) (fun e => LL.out.1 e.symm) _, bset (below_drew RS.out.2.2.2) (by have := LL.out.2.1; omega) 1 _⟩
          exact AllReadyH.nil
        exact AllReadyH.nil
      exact AllReadyH.nil
    · have JK := Aside0.mk jk
      clear jk j0 j2
      have cp0 := (blk_cell RS.out.2.1 0).trans rfl
      have cp1 := (blk_cell RS.out.2.1 1).trans rfl
      go_wp2_with (first
        | (go_at_call 154; refine (of_calls x y _).mono ?_; rintro e w1 ⟨rfl, hb⟩
           have fr := (hb.block _ (blk_lt RS.out.1)).trans RS.out.1
           have HB2 := Aside0.mk (below_then RS.out.2.2.2 RS.out.2.2.2.size hb)
           have FR := Aside0.mk fr
           have fz0 := blk_frozen fr 0; have fz1 := blk_frozen fr 1
           have y0 := (blk_cell fr 0).trans rfl; have y1 := (blk_cell fr 1).trans rfl
           clear hb fr cp0 cp1)
        | fail)
      have P := blk_set (blk_set FR.out 0 (.int .u64 y)) 1 (.int .u64 x)
      have k0 := (blk_cell P 0).trans rfl
      have k1 := (blk_cell P 1).trans rfl
      clear P fz0 fz1 y0 y1
      refine bodyPost_ret (v := .agg #[.int .u64 y, .int .u64 x]) (by simp [results, Tryz.results139, go_sem, k0, k1]) rfl ?_
      exact ⟨y, x, rfl, RR.out.2.1, RR.out.1, bset (bset HB2.out (by omega) 0 _) (by omega) 1 _⟩
set_option maxRecDepth 100000 in
set_option maxHeartbeats 4000000 in
theorem Sub_calls (h l h2 l2 : Int) (w : World) (hh : u64 h) (hl : u64 l) (hh2 : u64 h2) (hl2 : u64 l2) : Calls Tryz.prog 146 #[.agg #[.int .u64 h, .int .u64 l], .agg #[.int .u64 h2, .int .u64 l2]] w (WideP w) := by
  have q1 := heap_alloc_new w (.cells #[.int .u64 h, .int .u64 l] 98)
  have q2 := heap_alloc_new (w.alloc (.cells #[.int .u64 h, .int .u64 l] 98)) (.cells #[.int .u64 h2, .int .u64 l2] 98)
  have q3 := heap_alloc_new ((w.alloc (.cells #[.int .u64 h, .int .u64 l] 98)).alloc (.cells #[.int .u64 h2, .int .u64 l2] 98)) (.cells #[.int .u64 0, .int .u64 0] 98)
  have q1 := (heap_alloc_old (.cells #[.int .u64 0, .int .u64 0] 98) (blk_lt ((heap_alloc_old (.cells #[.int .u64 h2, .int .u64 l2] 98) (blk_lt q1)).trans q1))).trans ((heap_alloc_old (.cells #[.int .u64 h2, .int .u64 l2] 98) (blk_lt q1)).trans q1)
  have q2 := (heap_alloc_old (.cells #[.int .u64 0, .int .u64 0] 98) (blk_lt q2)).trans q2
  have qb := ((below_alloc (Below.refl w.heap.size w) (.cells #[.int .u64 h, .int .u64 l] 98)).alloc (by rw [World.size_alloc]; omega) (.cells #[.int .u64 h2, .int .u64 l2] 98)).alloc (by rw [World.size_alloc, World.size_alloc]; omega) (.cells #[.int .u64 0, .int .u64 0] 98)
  rw [World.size_alloc] at q2
  rw [World.size_alloc, World.size_alloc] at q3
  obtain ⟨W0, hW0⟩ : ∃ W0, W0 = ((w.alloc (.cells #[.int .u64 h, .int .u64 l] 98)).alloc (.cells #[.int .u64 h2, .int .u64 l2] 98)).alloc (.cells #[.int .u64 0, .int .u64 0] 98) := ⟨_, rfl⟩
  rw [← hW0] at q1 q2 q3 qb
  have F01 := Aside0.mk (show W0.drew.heap[w.heap.size]? = _ from q1)
  have F02 := Aside0.mk (show W0.drew.heap[w.heap.size + 1]? = _ from q2)
  have F03 := Aside0.mk (show W0.drew.heap[w.heap.size + 1 + 1]? = _ from q3)
  have HB0d := Aside0.mk (below_drew qb)
  have KA := Aside0.mk (show ∀ W : World, W.heap[w.heap.size]? = some (.cells #[.int .u64 h, .int .u64 l] 98 (0, 0)) → W.heap[w.heap.size + 1]? = some (.cells #[.int .u64 h2, .int .u64 l2] 98 (0, 0)) → (fun W => W.cell? ⟨w.heap.size, 0, none⟩ = some (.int .u64 h) ∧ W.cell? ⟨w.heap.size, 1, none⟩ = some (.int .u64 l) ∧ W.cell? ⟨w.heap.size + 1, 0, none⟩ = some (.int .u64 h2) ∧ W.cell? ⟨w.heap.size + 1, 1, none⟩ = some (.int .u64 l2)) W from fun W h1 h2 => ⟨(blk_cell h1 0).trans rfl, (blk_cell h1 1).trans rfl, (blk_cell h2 0).trans rfl, (blk_cell h2 1).trans rfl⟩)
  have HH := Aside0.mk (And.intro (And.intro hh hl) (And.intro hh2 hl2))
  clear q1 q2 q3 qb hh hl hh2 hl2
  have hW := Aside0.mk hW0
  clear hW0
  go_enter Tryz.func146, Tryz.ntmps146
  go_wp2
  rw [← hW.out]
  clear hW
  go_cut [5, 6] from 9 (fun s5 s6 wc => ∃ p q : Nat, s5 = .pointer (some ⟨p, 0, none⟩) ∧ s6 = .pointer (some ⟨q, 0, none⟩) ∧ p ≠ q ∧ w.heap.size + 1 + 1 < p ∧ w.heap.size + 1 + 1 < q ∧ wc.heap[w.heap.size + 1 + 1]? = some (.cells #[.int .u64 0, .int .u64 0] 98 (0, 0)) ∧ wc.heap[p]? = some (.cells #[.int .u64 l, .int .u64 h] 93 (0, 0)) ∧ wc.heap[q]? = some (.cells #[.int .u64 l2, .int .u64 h2] 93 (0, 0)) ∧ Below w.heap.size w wc)
  case first =>
    refine wp_region_held_drew (S := fun W => W.cell? ⟨w.heap.size, 0, none⟩ = some (.int .u64 h) ∧ W.cell? ⟨w.heap.size, 1, none⟩ = some (.int .u64 l) ∧ W.cell? ⟨w.heap.size + 1, 0, none⟩ = some (.int .u64 h2) ∧ W.cell? ⟨w.heap.size + 1, 1, none⟩ = some (.int .u64 l2)) (by kernel_rfl) (KA.out _ F01.out F02.out) (fun hHeld => ?_)
    generalize W0.drew = Wd at *
    refine tk (i := 0) ?_
    (try simp only [Act.put, g4, g5, g6])
    refine tk (i := 2) ?_
    (try simp only [Act.put, g4, g5, g6])
    refine wpAnyH_ready (rs := [1, 4, 5]) (by kernel_rfl) (by simp) ?_
    refine AllReadyH.cons (o := ?ob65) ?hb65 (fun K hK => ?sb65) ?mb65
    case hb65 => simp only [g1, g2, g3]; rfl
    case sb65 =>
      go_simp
      refine (words_calls h l _).mono ?_
      rintro e w409 ⟨rfl, hb⟩
      have F410 := Aside0.mk ((hb.block _ (blk_lt F01.out)).trans F01.out)
      have F411 := Aside0.mk ((hb.block _ (blk_lt F02.out)).trans F02.out)
      have F412 := Aside0.mk ((hb.block _ (blk_lt F03.out)).trans F03.out)
      have HB413 := Aside0.mk (below_then HB0d.out HB0d.out.size hb)
      clear hb
      refine hK.out _ _ (KA.out _ F410.out F411.out) (fun hHeld2 => ?_)
      clear hK K hHeld
      have hHeld := hHeld2
      clear hHeld2
      (try simp only [Act.put, g4, g5, g6])
      refine wpAnyH_ready (rs := [3, 4, 5]) (by kernel_rfl) (by simp) ?_
      refine AllReadyH.cons (o := ?ob66) ?hb66 (fun K hK => ?sb66) ?mb66
      case hb66 => simp only [g1, g2, g3]; rfl
      case sb66 =>
        go_simp
        refine (words_calls h2 l2 _).mono ?_
        rintro e w414 ⟨rfl, hb⟩
        have F415 := Aside0.mk ((hb.block _ (blk_lt F410.out)).trans F410.out)
        have F416 := Aside0.mk ((hb.block _ (blk_lt F411.out)).trans F411.out)
        have F417 := Aside0.mk ((hb.block _ (blk_lt F412.out)).trans F412.out)
        have HB418 := Aside0.mk (below_then HB413.out HB413.out.size hb)
        clear hb
        refine hK.out _ _ (KA.out _ F415.out F416.out) (fun hHeld2 => ?_)
        clear hK K hHeld
        have hHeld := hHeld2
        clear hHeld2
        (try simp only [Act.put, g4, g5, g6])
        refine wpAnyH_ready (rs := [4, 5]) (by kernel_rfl) (by simp) ?_
        refine AllReadyH.cons (o := ?ob67) ?hb67 (fun K hK => ?sb67) ?mb67
        case hb67 => simp only [g1, g2, g3]; rfl
        case sb67 =>
          go_simp
          have F421' := (heap_alloc_old (.cells #[.int .u64 0, .int .u64 0] 93) (blk_lt F415.out)).trans F415.out
          have F422' := (heap_alloc_old (.cells #[.int .u64 0, .int .u64 0] 93) (blk_lt F416.out)).trans F416.out
          have F423' := (heap_alloc_old (.cells #[.int .u64 0, .int .u64 0] 93) (blk_lt F417.out)).trans F417.out
          have F424' := heap_alloc_new w414 (.cells #[.int .u64 0, .int .u64 0] 93)
          have HB425' := HB418.out.alloc HB418.out.size (.cells #[.int .u64 0, .int .u64 0] 93)
          obtain ⟨V419, hV419⟩ : ∃ V, V = w414.alloc (.cells #[.int .u64 0, .int .u64 0] 93) := ⟨_, rfl⟩
          have Gp420 := Aside0.mk (show w.heap.size ≤ w414.heap.size from HB418.out.size)
          have Lp420_a := Aside0.mk (blk_lt F415.out)
          have Lp420_b := Aside0.mk (blk_lt F416.out)
          have Lp420_c := Aside0.mk (blk_lt F417.out)
          obtain ⟨p420, hp420⟩ : ∃ p, p = w414.heap.size := ⟨_, rfl⟩
          rw [← hp420, ← hV419]
          rw [← hp420, ← hV419] at F424'
          rw [← hp420] at Gp420 Lp420_a Lp420_b Lp420_c
          rw [← hV419] at F421'
          have F421 := Aside0.mk F421'
          rw [← hV419] at F422'
          have F422 := Aside0.mk F422'
          rw [← hV419] at F423'
          have F423 := Aside0.mk F423'
          have F424 := Aside0.mk F424'
          rw [← hV419] at HB425'
          have HB425 := Aside0.mk HB425'
          clear hV419 hp420 F421' F422' F423' F424' HB425'
          refine hK.out _ _ (KA.out _ F421.out F422.out) (fun hHeld2 => ?_)
          clear hK K hHeld
          have hHeld := hHeld2
          clear hHeld2
          (try simp only [Act.put, g4, g5, g6])
          refine wpAnyH_ready (rs := [5]) (by kernel_rfl) (by simp) ?_
          refine AllReadyH.cons (o := ?ob68) ?hb68 (fun K hK => ?sb68) ?mb68
          case hb68 => simp only [g1, g2, g3]; rfl
          case sb68 =>
            go_simp
            have F428' := (heap_alloc_old (.cells #[.int .u64 0, .int .u64 0] 93) (blk_lt F421.out)).trans F421.out
            have F429' := (heap_alloc_old (.cells #[.int .u64 0, .int .u64 0] 93) (blk_lt F422.out)).trans F422.out
            have F430' := (heap_alloc_old (.cells #[.int .u64 0, .int .u64 0] 93) (blk_lt F423.out)).trans F423.out
            have F431' := (heap_alloc_old (.cells #[.int .u64 0, .int .u64 0] 93) (blk_lt F424.out)).trans F424.out
            have F432' := heap_alloc_new V419 (.cells #[.int .u64 0, .int .u64 0] 93)
            have HB433' := HB425.out.alloc HB425.out.size (.cells #[.int .u64 0, .int .u64 0] 93)
            obtain ⟨V426, hV426⟩ : ∃ V, V = V419.alloc (.cells #[.int .u64 0, .int .u64 0] 93) := ⟨_, rfl⟩
            have Gp427 := Aside0.mk (show w.heap.size ≤ V419.heap.size from HB425.out.size)
            have Lp427_a := Aside0.mk (blk_lt F421.out)
            have Lp427_b := Aside0.mk (blk_lt F422.out)
            have Lp427_c := Aside0.mk (blk_lt F423.out)
            have Lp427_p4 := Aside0.mk (blk_lt F424.out)
            obtain ⟨p427, hp427⟩ : ∃ p, p = V419.heap.size := ⟨_, rfl⟩
            rw [← hp427, ← hV426]
            rw [← hp427, ← hV426] at F432'
            rw [← hp427] at Gp427 Lp427_a Lp427_b Lp427_c Lp427_p4
            rw [← hV426] at F428'
            have F428 := Aside0.mk F428'
            rw [← hV426] at F429'
            have F429 := Aside0.mk F429'
            rw [← hV426] at F430'
            have F430 := Aside0.mk F430'
            rw [← hV426] at F431'
            have F431 := Aside0.mk F431'
            have F432 := Aside0.mk F432'
            rw [← hV426] at HB433'
            have HB433 := Aside0.mk HB433'
            clear hV426 hp427 F428' F429' F430' F431' F432' HB433'
            refine hK.out _ _ (KA.out _ F428.out F429.out) (fun hHeld2 => ?_)
            clear hK K hHeld
            have hHeld := hHeld2
            clear hHeld2
            (try simp only [Act.put, g4, g5, g6])
            refine wpAnyH_ready (rs := [6]) (by kernel_rfl) (by simp) ?_
            refine AllReadyH.cons (o := ?ob69) ?hb69 (fun K hK => ?sb69) ?mb69
            case hb69 => simp only [g1, g2, g3]; rfl
            case sb69 =>
              have fz0 := blk_frozen F431.out 0
              have fz1 := blk_frozen F431.out 1
              have y0 := (blk_cell F431.out 0).trans rfl
              have y1 := (blk_cell F431.out 1).trans rfl
              go_simp
              clear fz0 fz1 y0 y1
              have F435' := blk_far (blk_far F428.out (p := ⟨p420, 0, none⟩) (by have := Lp420_a.out; show _ ≠ p420; omega) (.int .u64 l)) (p := ⟨p420, 1, none⟩) (by have := Lp420_a.out; show _ ≠ p420; omega) (.int .u64 h)
              have F436' := blk_far (blk_far F429.out (p := ⟨p420, 0, none⟩) (by have := Lp420_b.out; show _ ≠ p420; omega) (.int .u64 l)) (p := ⟨p420, 1, none⟩) (by have := Lp420_b.out; show _ ≠ p420; omega) (.int .u64 h)
              have F437' := blk_far (blk_far F430.out (p := ⟨p420, 0, none⟩) (by have := Lp420_c.out; show _ ≠ p420; omega) (.int .u64 l)) (p := ⟨p420, 1, none⟩) (by have := Lp420_c.out; show _ ≠ p420; omega) (.int .u64 h)
              have F438' : ((V426.setCell ⟨p420, 0, none⟩ (.int .u64 l)).setCell ⟨p420, 1, none⟩ (.int .u64 h)).heap[p420]? = some (.cells #[.int .u64 l, .int .u64 h] 93 (0, 0)) := by have P := blk_set (blk_set F431.out 0 (.int .u64 l)) 1 (.int .u64 h); simpa using P
              have F439' := blk_far (blk_far F432.out (p := ⟨p420, 0, none⟩) (by show p427 ≠ p420; have := Lp427_p4.out; omega) (.int .u64 l)) (p := ⟨p420, 1, none⟩) (by show p427 ≠ p420; have := Lp427_p4.out; omega) (.int .u64 h)
              have HB440' := bset (bset HB433.out Gp420.out 0 (.int .u64 l)) Gp420.out 1 (.int .u64 h)
              obtain ⟨V434, hV434⟩ : ∃ V, V = ((V426.setCell ⟨p420, 0, none⟩ (.int .u64 l)).setCell ⟨p420, 1, none⟩ (.int .u64 h)) := ⟨_, rfl⟩
              rw [← hV434]
              rw [← hV434] at F435'
              have F435 := Aside0.mk F435'
              clear F435'
              rw [← hV434] at F436'
              have F436 := Aside0.mk F436'
              clear F436'
              rw [← hV434] at F437'
              have F437 := Aside0.mk F437'
              clear F437'
              rw [← hV434] at F438'
              have F438 := Aside0.mk F438'
              clear F438'
              rw [← hV434] at F439'
              have F439 := Aside0.mk F439'
              clear F439'
              rw [← hV434] at HB440'
              have HB440 := Aside0.mk HB440'
              clear HB440'
              clear hV434
              refine hK.out _ _ (KA.out _ F435.out F436.out) (fun hHeld2 => ?_)
              clear hK K hHeld
              have hHeld := hHeld2
              clear hHeld2
              (try simp only [Act.put, g4, g5, g6])
              refine wpAnyH_ready (rs := [7]) (by kernel_rfl) (by simp) ?_
              refine AllReadyH.cons (o := ?ob70) ?hb70 (fun K hK => ?sb70) ?mb70
              case hb70 => simp only [g1, g2, g3]; rfl
              case sb70 =>
                have fz0 := blk_frozen F439.out 0
                have fz1 := blk_frozen F439.out 1
                have y0 := (blk_cell F439.out 0).trans rfl
                have y1 := (blk_cell F439.out 1).trans rfl
                go_simp
                clear fz0 fz1 y0 y1
                have F442' := blk_far (blk_far F435.out (p := ⟨p427, 0, none⟩) (by have := Lp427_a.out; show _ ≠ p427; omega) (.int .u64 l2)) (p := ⟨p427, 1, none⟩) (by have := Lp427_a.out; show _ ≠ p427; omega) (.int .u64 h2)
                have F443' := blk_far (blk_far F436.out (p := ⟨p427, 0, none⟩) (by have := Lp427_b.out; show _ ≠ p427; omega) (.int .u64 l2)) (p := ⟨p427, 1, none⟩) (by have := Lp427_b.out; show _ ≠ p427; omega) (.int .u64 h2)
                have F444' := blk_far (blk_far F437.out (p := ⟨p427, 0, none⟩) (by have := Lp427_c.out; show _ ≠ p427; omega) (.int .u64 l2)) (p := ⟨p427, 1, none⟩) (by have := Lp427_c.out; show _ ≠ p427; omega) (.int .u64 h2)
                have F445' := blk_far (blk_far F438.out (p := ⟨p427, 0, none⟩) (by show p420 ≠ p427; have := Lp427_p4.out; omega) (.int .u64 l2)) (p := ⟨p427, 1, none⟩) (by show p420 ≠ p427; have := Lp427_p4.out; omega) (.int .u64 h2)
                have F446' : ((V434.setCell ⟨p427, 0, none⟩ (.int .u64 l2)).setCell ⟨p427, 1, none⟩ (.int .u64 h2)).heap[p427]? = some (.cells #[.int .u64 l2, .int .u64 h2] 93 (0, 0)) := by have P := blk_set (blk_set F439.out 0 (.int .u64 l2)) 1 (.int .u64 h2); simpa using P
                have HB447' := bset (bset HB440.out Gp427.out 0 (.int .u64 l2)) Gp427.out 1 (.int .u64 h2)
                obtain ⟨V441, hV441⟩ : ∃ V, V = ((V434.setCell ⟨p427, 0, none⟩ (.int .u64 l2)).setCell ⟨p427, 1, none⟩ (.int .u64 h2)) := ⟨_, rfl⟩
                rw [← hV441]
                rw [← hV441] at F442'
                have F442 := Aside0.mk F442'
                clear F442'
                rw [← hV441] at F443'
                have F443 := Aside0.mk F443'
                clear F443'
                rw [← hV441] at F444'
                have F444 := Aside0.mk F444'
                clear F444'
                rw [← hV441] at F445'
                have F445 := Aside0.mk F445'
                clear F445'
                rw [← hV441] at F446'
                have F446 := Aside0.mk F446'
                clear F446'
                rw [← hV441] at HB447'
                have HB447 := Aside0.mk HB447'
                clear HB447'
                clear hV441
                refine hK.out _ _ (KA.out _ F442.out F443.out) (fun hHeld2 => ?_)
                clear hK K hHeld
                have hHeld := hHeld2
                clear hHeld2
                (try simp only [Act.put, g4, g5, g6])
                refine wpAnyH_done (by kernel_rfl) ?_ _
                go_wp2
                go_meet
                case rel => exact ⟨p420, p427, rfl, rfl, (by have := Lp427_p4.out; omega), (by have := Lp420_c.out; omega), (by have := Lp427_c.out; omega), F444.out, F445.out, F446.out, HB447.out⟩
              exact AllReadyH.nil
            exact AllReadyH.nil
          exact AllReadyH.nil
        refine AllReadyH.cons (o := ?ob71) ?hb71 (fun K hK => ?sb71) ?mb71
        case hb71 => simp only [g1, g2, g3]; rfl
        case sb71 =>
          go_simp
          have F450' := (heap_alloc_old (.cells #[.int .u64 0, .int .u64 0] 93) (blk_lt F415.out)).trans F415.out
          have F451' := (heap_alloc_old (.cells #[.int .u64 0, .int .u64 0] 93) (blk_lt F416.out)).trans F416.out
          have F452' := (heap_alloc_old (.cells #[.int .u64 0, .int .u64 0] 93) (blk_lt F417.out)).trans F417.out
          have F453' := heap_alloc_new w414 (.cells #[.int .u64 0, .int .u64 0] 93)
          have HB454' := HB418.out.alloc HB418.out.size (.cells #[.int .u64 0, .int .u64 0] 93)
          obtain ⟨V448, hV448⟩ : ∃ V, V = w414.alloc (.cells #[.int .u64 0, .int .u64 0] 93) := ⟨_, rfl⟩
          have Gp449 := Aside0.mk (show w.heap.size ≤ w414.heap.size from HB418.out.size)
          have Lp449_a := Aside0.mk (blk_lt F415.out)
          have Lp449_b := Aside0.mk (blk_lt F416.out)
          have Lp449_c := Aside0.mk (blk_lt F417.out)
          obtain ⟨p449, hp449⟩ : ∃ p, p = w414.heap.size := ⟨_, rfl⟩
          rw [← hp449, ← hV448]
          rw [← hp449, ← hV448] at F453'
          rw [← hp449] at Gp449 Lp449_a Lp449_b Lp449_c
          rw [← hV448] at F450'
          have F450 := Aside0.mk F450'
          rw [← hV448] at F451'
          have F451 := Aside0.mk F451'
          rw [← hV448] at F452'
          have F452 := Aside0.mk F452'
          have F453 := Aside0.mk F453'
          rw [← hV448] at HB454'
          have HB454 := Aside0.mk HB454'
          clear hV448 hp449 F450' F451' F452' F453' HB454'
          refine hK.out _ _ (KA.out _ F450.out F451.out) (fun hHeld2 => ?_)
          clear hK K hHeld
          have hHeld := hHeld2
          clear hHeld2
          (try simp only [Act.put, g4, g5, g6])
          refine wpAnyH_ready (rs := [4]) (by kernel_rfl) (by simp) ?_
          refine AllReadyH.cons (o := ?ob72) ?hb72 (fun K hK => ?sb72) ?mb72
          case hb72 => simp only [g1, g2, g3]; rfl
          case sb72 =>
            go_simp
            have F457' := (heap_alloc_old (.cells #[.int .u64 0, .int .u64 0] 93) (blk_lt F450.out)).trans F450.out
            have F458' := (heap_alloc_old (.cells #[.int .u64 0, .int .u64 0] 93) (blk_lt F451.out)).trans F451.out
            have F459' := (heap_alloc_old (.cells #[.int .u64 0, .int .u64 0] 93) (blk_lt F452.out)).trans F452.out
            have F460' := (heap_alloc_old (.cells #[.int .u64 0, .int .u64 0] 93) (blk_lt F453.out)).trans F453.out
            have F461' := heap_alloc_new V448 (.cells #[.int .u64 0, .int .u64 0] 93)
            have HB462' := HB454.out.alloc HB454.out.size (.cells #[.int .u64 0, .int .u64 0] 93)
            obtain ⟨V455, hV455⟩ : ∃ V, V = V448.alloc (.cells #[.int .u64 0, .int .u64 0] 93) := ⟨_, rfl⟩
            have Gp456 := Aside0.mk (show w.heap.size ≤ V448.heap.size from HB454.out.size)
            have Lp456_a := Aside0.mk (blk_lt F450.out)
            have Lp456_b := Aside0.mk (blk_lt F451.out)
            have Lp456_c := Aside0.mk (blk_lt F452.out)
            have Lp456_p5 := Aside0.mk (blk_lt F453.out)
            obtain ⟨p456, hp456⟩ : ∃ p, p = V448.heap.size := ⟨_, rfl⟩
            rw [← hp456, ← hV455]
            rw [← hp456, ← hV455] at F461'
            rw [← hp456] at Gp456 Lp456_a Lp456_b Lp456_c Lp456_p5
            rw [← hV455] at F457'
            have F457 := Aside0.mk F457'
            rw [← hV455] at F458'
            have F458 := Aside0.mk F458'
            rw [← hV455] at F459'
            have F459 := Aside0.mk F459'
            rw [← hV455] at F460'
            have F460 := Aside0.mk F460'
            have F461 := Aside0.mk F461'
            rw [← hV455] at HB462'
            have HB462 := Aside0.mk HB462'
            clear hV455 hp456 F457' F458' F459' F460' F461' HB462'
            refine hK.out _ _ (KA.out _ F457.out F458.out) (fun hHeld2 => ?_)
            clear hK K hHeld
            have hHeld := hHeld2
            clear hHeld2
            (try simp only [Act.put, g4, g5, g6])
            refine wpAnyH_ready (rs := [6]) (by kernel_rfl) (by simp) ?_
            refine AllReadyH.cons (o := ?ob73) ?hb73 (fun K hK => ?sb73) ?mb73
            case hb73 => simp only [g1, g2, g3]; rfl
            case sb73 =>
              have fz0 := blk_frozen F461.out 0
              have fz1 := blk_frozen F461.out 1
              have y0 := (blk_cell F461.out 0).trans rfl
              have y1 := (blk_cell F461.out 1).trans rfl
              go_simp
              clear fz0 fz1 y0 y1
              have F464' := blk_far (blk_far F457.out (p := ⟨p456, 0, none⟩) (by have := Lp456_a.out; show _ ≠ p456; omega) (.int .u64 l)) (p := ⟨p456, 1, none⟩) (by have := Lp456_a.out; show _ ≠ p456; omega) (.int .u64 h)
              have F465' := blk_far (blk_far F458.out (p := ⟨p456, 0, none⟩) (by have := Lp456_b.out; show _ ≠ p456; omega) (.int .u64 l)) (p := ⟨p456, 1, none⟩) (by have := Lp456_b.out; show _ ≠ p456; omega) (.int .u64 h)
              have F466' := blk_far (blk_far F459.out (p := ⟨p456, 0, none⟩) (by have := Lp456_c.out; show _ ≠ p456; omega) (.int .u64 l)) (p := ⟨p456, 1, none⟩) (by have := Lp456_c.out; show _ ≠ p456; omega) (.int .u64 h)
              have F467' := blk_far (blk_far F460.out (p := ⟨p456, 0, none⟩) (by show p449 ≠ p456; have := Lp456_p5.out; omega) (.int .u64 l)) (p := ⟨p456, 1, none⟩) (by show p449 ≠ p456; have := Lp456_p5.out; omega) (.int .u64 h)
              have F468' : ((V455.setCell ⟨p456, 0, none⟩ (.int .u64 l)).setCell ⟨p456, 1, none⟩ (.int .u64 h)).heap[p456]? = some (.cells #[.int .u64 l, .int .u64 h] 93 (0, 0)) := by have P := blk_set (blk_set F461.out 0 (.int .u64 l)) 1 (.int .u64 h); simpa using P
              have HB469' := bset (bset HB462.out Gp456.out 0 (.int .u64 l)) Gp456.out 1 (.int .u64 h)
              obtain ⟨V463, hV463⟩ : ∃ V, V = ((V455.setCell ⟨p456, 0, none⟩ (.int .u64 l)).setCell ⟨p456, 1, none⟩ (.int .u64 h)) := ⟨_, rfl⟩
              rw [← hV463]
              rw [← hV463] at F464'
              have F464 := Aside0.mk F464'
              clear F464'
              rw [← hV463] at F465'
              have F465 := Aside0.mk F465'
              clear F465'
              rw [← hV463] at F466'
              have F466 := Aside0.mk F466'
              clear F466'
              rw [← hV463] at F467'
              have F467 := Aside0.mk F467'
              clear F467'
              rw [← hV463] at F468'
              have F468 := Aside0.mk F468'
              clear F468'
              rw [← hV463] at HB469'
              have HB469 := Aside0.mk HB469'
              clear HB469'
              clear hV463
              refine hK.out _ _ (KA.out _ F464.out F465.out) (fun hHeld2 => ?_)
              clear hK K hHeld
              have hHeld := hHeld2
              clear hHeld2
              (try simp only [Act.put, g4, g5, g6])
              refine wpAnyH_ready (rs := [7]) (by kernel_rfl) (by simp) ?_
              refine AllReadyH.cons (o := ?ob74) ?hb74 (fun K hK => ?sb74) ?mb74
              case hb74 => simp only [g1, g2, g3]; rfl
              case sb74 =>
                have fz0 := blk_frozen F467.out 0
                have fz1 := blk_frozen F467.out 1
                have y0 := (blk_cell F467.out 0).trans rfl
                have y1 := (blk_cell F467.out 1).trans rfl
                go_simp
                clear fz0 fz1 y0 y1
                have F471' := blk_far (blk_far F464.out (p := ⟨p449, 0, none⟩) (by have := Lp449_a.out; show _ ≠ p449; omega) (.int .u64 l2)) (p := ⟨p449, 1, none⟩) (by have := Lp449_a.out; show _ ≠ p449; omega) (.int .u64 h2)
                have F472' := blk_far (blk_far F465.out (p := ⟨p449, 0, none⟩) (by have := Lp449_b.out; show _ ≠ p449; omega) (.int .u64 l2)) (p := ⟨p449, 1, none⟩) (by have := Lp449_b.out; show _ ≠ p449; omega) (.int .u64 h2)
                have F473' := blk_far (blk_far F466.out (p := ⟨p449, 0, none⟩) (by have := Lp449_c.out; show _ ≠ p449; omega) (.int .u64 l2)) (p := ⟨p449, 1, none⟩) (by have := Lp449_c.out; show _ ≠ p449; omega) (.int .u64 h2)
                have F474' : ((V463.setCell ⟨p449, 0, none⟩ (.int .u64 l2)).setCell ⟨p449, 1, none⟩ (.int .u64 h2)).heap[p449]? = some (.cells #[.int .u64 l2, .int .u64 h2] 93 (0, 0)) := by have P := blk_set (blk_set F467.out 0 (.int .u64 l2)) 1 (.int .u64 h2); simpa using P
                have F475' := blk_far (blk_far F468.out (p := ⟨p449, 0, none⟩) (by show p456 ≠ p449; have := Lp456_p5.out; omega) (.int .u64 l2)) (p := ⟨p449, 1, none⟩) (by show p456 ≠ p449; have := Lp456_p5.out; omega) (.int .u64 h2)
                have HB476' := bset (bset HB469.out Gp449.out 0 (.int .u64 l2)) Gp449.out 1 (.int .u64 h2)
                obtain ⟨V470, hV470⟩ : ∃ V, V = ((V463.setCell ⟨p449, 0, none⟩ (.int .u64 l2)).setCell ⟨p449, 1, none⟩ (.int .u64 h2)) := ⟨_, rfl⟩
                rw [← hV470]
                rw [← hV470] at F471'
                have F471 := Aside0.mk F471'
                clear F471'
                rw [← hV470] at F472'
                have F472 := Aside0.mk F472'
                clear F472'
                rw [← hV470] at F473'
                have F473 := Aside0.mk F473'
                clear F473'
                rw [← hV470] at F474'
                have F474 := Aside0.mk F474'
                clear F474'
                rw [← hV470] at F475'
                have F475 := Aside0.mk F475'
                clear F475'
                rw [← hV470] at HB476'
                have HB476 := Aside0.mk HB476'
                clear HB476'
                clear hV470
                refine hK.out _ _ (KA.out _ F471.out F472.out) (fun hHeld2 => ?_)
                clear hK K hHeld
                have hHeld := hHeld2
                clear hHeld2
                (try simp only [Act.put, g4, g5, g6])
                refine wpAnyH_done (by kernel_rfl) ?_ _
                go_wp2
                go_meet
                case rel => exact ⟨p456, p449, rfl, rfl, (by have := Lp456_p5.out; omega), (by have := Lp456_c.out; omega), (by have := Lp449_c.out; omega), F473.out, F475.out, F474.out, HB476.out⟩
              exact AllReadyH.nil
            exact AllReadyH.nil
          exact AllReadyH.nil
        exact AllReadyH.nil
      refine AllReadyH.cons (o := ?ob75) ?hb75 (fun K hK => ?sb75) ?mb75
      case hb75 => simp only [g1, g2, g3]; rfl
      case sb75 =>
        go_simp
        have F479' := (heap_alloc_old (.cells #[.int .u64 0, .int .u64 0] 93) (blk_lt F410.out)).trans F410.out
        have F480' := (heap_alloc_old (.cells #[.int .u64 0, .int .u64 0] 93) (blk_lt F411.out)).trans F411.out
        have F481' := (heap_alloc_old (.cells #[.int .u64 0, .int .u64 0] 93) (blk_lt F412.out)).trans F412.out
        have F482' := heap_alloc_new w409 (.cells #[.int .u64 0, .int .u64 0] 93)
        have HB483' := HB413.out.alloc HB413.out.size (.cells #[.int .u64 0, .int .u64 0] 93)
        obtain ⟨V477, hV477⟩ : ∃ V, V = w409.alloc (.cells #[.int .u64 0, .int .u64 0] 93) := ⟨_, rfl⟩
        have Gp478 := Aside0.mk (show w.heap.size ≤ w409.heap.size from HB413.out.size)
        have Lp478_a := Aside0.mk (blk_lt F410.out)
        have Lp478_b := Aside0.mk (blk_lt F411.out)
        have Lp478_c := Aside0.mk (blk_lt F412.out)
        obtain ⟨p478, hp478⟩ : ∃ p, p = w409.heap.size := ⟨_, rfl⟩
        rw [← hp478, ← hV477]
        rw [← hp478, ← hV477] at F482'
        rw [← hp478] at Gp478 Lp478_a Lp478_b Lp478_c
        rw [← hV477] at F479'
        have F479 := Aside0.mk F479'
        rw [← hV477] at F480'
        have F480 := Aside0.mk F480'
        rw [← hV477] at F481'
        have F481 := Aside0.mk F481'
        have F482 := Aside0.mk F482'
        rw [← hV477] at HB483'
        have HB483 := Aside0.mk HB483'
        clear hV477 hp478 F479' F480' F481' F482' HB483'
        refine hK.out _ _ (KA.out _ F479.out F480.out) (fun hHeld2 => ?_)
        clear hK K hHeld
        have hHeld := hHeld2
        clear hHeld2
        (try simp only [Act.put, g4, g5, g6])
        refine wpAnyH_ready (rs := [3, 5]) (by kernel_rfl) (by simp) ?_
        refine AllReadyH.cons (o := ?ob76) ?hb76 (fun K hK => ?sb76) ?mb76
        case hb76 => simp only [g1, g2, g3]; rfl
        case sb76 =>
          go_simp
          refine (words_calls h2 l2 _).mono ?_
          rintro e w484 ⟨rfl, hb⟩
          have F485 := Aside0.mk ((hb.block _ (blk_lt F479.out)).trans F479.out)
          have F486 := Aside0.mk ((hb.block _ (blk_lt F480.out)).trans F480.out)
          have F487 := Aside0.mk ((hb.block _ (blk_lt F481.out)).trans F481.out)
          have F488 := Aside0.mk ((hb.block _ (blk_lt F482.out)).trans F482.out)
          have HB489 := Aside0.mk (below_then HB483.out HB483.out.size hb)
          clear hb
          refine hK.out _ _ (KA.out _ F485.out F486.out) (fun hHeld2 => ?_)
          clear hK K hHeld
          have hHeld := hHeld2
          clear hHeld2
          (try simp only [Act.put, g4, g5, g6])
          refine wpAnyH_ready (rs := [5]) (by kernel_rfl) (by simp) ?_
          refine AllReadyH.cons (o := ?ob77) ?hb77 (fun K hK => ?sb77) ?mb77
          case hb77 => simp only [g1, g2, g3]; rfl
          case sb77 =>
            go_simp
            have F492' := (heap_alloc_old (.cells #[.int .u64 0, .int .u64 0] 93) (blk_lt F485.out)).trans F485.out
            have F493' := (heap_alloc_old (.cells #[.int .u64 0, .int .u64 0] 93) (blk_lt F486.out)).trans F486.out
            have F494' := (heap_alloc_old (.cells #[.int .u64 0, .int .u64 0] 93) (blk_lt F487.out)).trans F487.out
            have F495' := (heap_alloc_old (.cells #[.int .u64 0, .int .u64 0] 93) (blk_lt F488.out)).trans F488.out
            have F496' := heap_alloc_new w484 (.cells #[.int .u64 0, .int .u64 0] 93)
            have HB497' := HB489.out.alloc HB489.out.size (.cells #[.int .u64 0, .int .u64 0] 93)
            obtain ⟨V490, hV490⟩ : ∃ V, V = w484.alloc (.cells #[.int .u64 0, .int .u64 0] 93) := ⟨_, rfl⟩
            have Gp491 := Aside0.mk (show w.heap.size ≤ w484.heap.size from HB489.out.size)
            have Lp491_a := Aside0.mk (blk_lt F485.out)
            have Lp491_b := Aside0.mk (blk_lt F486.out)
            have Lp491_c := Aside0.mk (blk_lt F487.out)
            have Lp491_p4 := Aside0.mk (blk_lt F488.out)
            obtain ⟨p491, hp491⟩ : ∃ p, p = w484.heap.size := ⟨_, rfl⟩
            rw [← hp491, ← hV490]
            rw [← hp491, ← hV490] at F496'
            rw [← hp491] at Gp491 Lp491_a Lp491_b Lp491_c Lp491_p4
            rw [← hV490] at F492'
            have F492 := Aside0.mk F492'
            rw [← hV490] at F493'
            have F493 := Aside0.mk F493'
            rw [← hV490] at F494'
            have F494 := Aside0.mk F494'
            rw [← hV490] at F495'
            have F495 := Aside0.mk F495'
            have F496 := Aside0.mk F496'
            rw [← hV490] at HB497'
            have HB497 := Aside0.mk HB497'
            clear hV490 hp491 F492' F493' F494' F495' F496' HB497'
            refine hK.out _ _ (KA.out _ F492.out F493.out) (fun hHeld2 => ?_)
            clear hK K hHeld
            have hHeld := hHeld2
            clear hHeld2
            (try simp only [Act.put, g4, g5, g6])
            refine wpAnyH_ready (rs := [6]) (by kernel_rfl) (by simp) ?_
            refine AllReadyH.cons (o := ?ob78) ?hb78 (fun K hK => ?sb78) ?mb78
            case hb78 => simp only [g1, g2, g3]; rfl
            case sb78 =>
              have fz0 := blk_frozen F495.out 0
              have fz1 := blk_frozen F495.out 1
              have y0 := (blk_cell F495.out 0).trans rfl
              have y1 := (blk_cell F495.out 1).trans rfl
              go_simp
              clear fz0 fz1 y0 y1
              have F499' := blk_far (blk_far F492.out (p := ⟨p478, 0, none⟩) (by have := Lp478_a.out; show _ ≠ p478; omega) (.int .u64 l)) (p := ⟨p478, 1, none⟩) (by have := Lp478_a.out; show _ ≠ p478; omega) (.int .u64 h)
              have F500' := blk_far (blk_far F493.out (p := ⟨p478, 0, none⟩) (by have := Lp478_b.out; show _ ≠ p478; omega) (.int .u64 l)) (p := ⟨p478, 1, none⟩) (by have := Lp478_b.out; show _ ≠ p478; omega) (.int .u64 h)
              have F501' := blk_far (blk_far F494.out (p := ⟨p478, 0, none⟩) (by have := Lp478_c.out; show _ ≠ p478; omega) (.int .u64 l)) (p := ⟨p478, 1, none⟩) (by have := Lp478_c.out; show _ ≠ p478; omega) (.int .u64 h)
              have F502' : ((V490.setCell ⟨p478, 0, none⟩ (.int .u64 l)).setCell ⟨p478, 1, none⟩ (.int .u64 h)).heap[p478]? = some (.cells #[.int .u64 l, .int .u64 h] 93 (0, 0)) := by have P := blk_set (blk_set F495.out 0 (.int .u64 l)) 1 (.int .u64 h); simpa using P
              have F503' := blk_far (blk_far F496.out (p := ⟨p478, 0, none⟩) (by show p491 ≠ p478; have := Lp491_p4.out; omega) (.int .u64 l)) (p := ⟨p478, 1, none⟩) (by show p491 ≠ p478; have := Lp491_p4.out; omega) (.int .u64 h)
              have HB504' := bset (bset HB497.out Gp478.out 0 (.int .u64 l)) Gp478.out 1 (.int .u64 h)
              obtain ⟨V498, hV498⟩ : ∃ V, V = ((V490.setCell ⟨p478, 0, none⟩ (.int .u64 l)).setCell ⟨p478, 1, none⟩ (.int .u64 h)) := ⟨_, rfl⟩
              rw [← hV498]
              rw [← hV498] at F499'
              have F499 := Aside0.mk F499'
              clear F499'
              rw [← hV498] at F500'
              have F500 := Aside0.mk F500'
              clear F500'
              rw [← hV498] at F501'
              have F501 := Aside0.mk F501'
              clear F501'
              rw [← hV498] at F502'
              have F502 := Aside0.mk F502'
              clear F502'
              rw [← hV498] at F503'
              have F503 := Aside0.mk F503'
              clear F503'
              rw [← hV498] at HB504'
              have HB504 := Aside0.mk HB504'
              clear HB504'
              clear hV498
              refine hK.out _ _ (KA.out _ F499.out F500.out) (fun hHeld2 => ?_)
              clear hK K hHeld
              have hHeld := hHeld2
              clear hHeld2
              (try simp only [Act.put, g4, g5, g6])
              refine wpAnyH_ready (rs := [7]) (by kernel_rfl) (by simp) ?_
              refine AllReadyH.cons (o := ?ob79) ?hb79 (fun K hK => ?sb79) ?mb79
              case hb79 => simp only [g1, g2, g3]; rfl
              case sb79 =>
                have fz0 := blk_frozen F503.out 0
                have fz1 := blk_frozen F503.out 1
                have y0 := (blk_cell F503.out 0).trans rfl
                have y1 := (blk_cell F503.out 1).trans rfl
                go_simp
                clear fz0 fz1 y0 y1
                have F506' := blk_far (blk_far F499.out (p := ⟨p491, 0, none⟩) (by have := Lp491_a.out; show _ ≠ p491; omega) (.int .u64 l2)) (p := ⟨p491, 1, none⟩) (by have := Lp491_a.out; show _ ≠ p491; omega) (.int .u64 h2)
                have F507' := blk_far (blk_far F500.out (p := ⟨p491, 0, none⟩) (by have := Lp491_b.out; show _ ≠ p491; omega) (.int .u64 l2)) (p := ⟨p491, 1, none⟩) (by have := Lp491_b.out; show _ ≠ p491; omega) (.int .u64 h2)
                have F508' := blk_far (blk_far F501.out (p := ⟨p491, 0, none⟩) (by have := Lp491_c.out; show _ ≠ p491; omega) (.int .u64 l2)) (p := ⟨p491, 1, none⟩) (by have := Lp491_c.out; show _ ≠ p491; omega) (.int .u64 h2)
                have F509' := blk_far (blk_far F502.out (p := ⟨p491, 0, none⟩) (by show p478 ≠ p491; have := Lp491_p4.out; omega) (.int .u64 l2)) (p := ⟨p491, 1, none⟩) (by show p478 ≠ p491; have := Lp491_p4.out; omega) (.int .u64 h2)
                have F510' : ((V498.setCell ⟨p491, 0, none⟩ (.int .u64 l2)).setCell ⟨p491, 1, none⟩ (.int .u64 h2)).heap[p491]? = some (.cells #[.int .u64 l2, .int .u64 h2] 93 (0, 0)) := by have P := blk_set (blk_set F503.out 0 (.int .u64 l2)) 1 (.int .u64 h2); simpa using P
                have HB511' := bset (bset HB504.out Gp491.out 0 (.int .u64 l2)) Gp491.out 1 (.int .u64 h2)
                obtain ⟨V505, hV505⟩ : ∃ V, V = ((V498.setCell ⟨p491, 0, none⟩ (.int .u64 l2)).setCell ⟨p491, 1, none⟩ (.int .u64 h2)) := ⟨_, rfl⟩
                rw [← hV505]
                rw [← hV505] at F506'
                have F506 := Aside0.mk F506'
                clear F506'
                rw [← hV505] at F507'
                have F507 := Aside0.mk F507'
                clear F507'
                rw [← hV505] at F508'
                have F508 := Aside0.mk F508'
                clear F508'
                rw [← hV505] at F509'
                have F509 := Aside0.mk F509'
                clear F509'
                rw [← hV505] at F510'
                have F510 := Aside0.mk F510'
                clear F510'
                rw [← hV505] at HB511'
                have HB511 := Aside0.mk HB511'
                clear HB511'
                clear hV505
                refine hK.out _ _ (KA.out _ F506.out F507.out) (fun hHeld2 => ?_)
                clear hK K hHeld
                have hHeld := hHeld2
                clear hHeld2
                (try simp only [Act.put, g4, g5, g6])
                refine wpAnyH_done (by kernel_rfl) ?_ _
                go_wp2
                go_meet
                case rel => exact ⟨p478, p491, rfl, rfl, (by have := Lp491_p4.out; omega), (by have := Lp478_c.out; omega), (by have := Lp491_c.out; omega), F508.out, F509.out, F510.out, HB511.out⟩
              exact AllReadyH.nil
            exact AllReadyH.nil
          exact AllReadyH.nil
        refine AllReadyH.cons (o := ?ob80) ?hb80 (fun K hK => ?sb80) ?mb80
        case hb80 => simp only [g1, g2, g3]; rfl
        case sb80 =>
          go_simp
          have F514' := (heap_alloc_old (.cells #[.int .u64 0, .int .u64 0] 93) (blk_lt F479.out)).trans F479.out
          have F515' := (heap_alloc_old (.cells #[.int .u64 0, .int .u64 0] 93) (blk_lt F480.out)).trans F480.out
          have F516' := (heap_alloc_old (.cells #[.int .u64 0, .int .u64 0] 93) (blk_lt F481.out)).trans F481.out
          have F517' := (heap_alloc_old (.cells #[.int .u64 0, .int .u64 0] 93) (blk_lt F482.out)).trans F482.out
          have F518' := heap_alloc_new V477 (.cells #[.int .u64 0, .int .u64 0] 93)
          have HB519' := HB483.out.alloc HB483.out.size (.cells #[.int .u64 0, .int .u64 0] 93)
          obtain ⟨V512, hV512⟩ : ∃ V, V = V477.alloc (.cells #[.int .u64 0, .int .u64 0] 93) := ⟨_, rfl⟩
          have Gp513 := Aside0.mk (show w.heap.size ≤ V477.heap.size from HB483.out.size)
          have Lp513_a := Aside0.mk (blk_lt F479.out)
          have Lp513_b := Aside0.mk (blk_lt F480.out)
          have Lp513_c := Aside0.mk (blk_lt F481.out)
          have Lp513_p4 := Aside0.mk (blk_lt F482.out)
          obtain ⟨p513, hp513⟩ : ∃ p, p = V477.heap.size := ⟨_, rfl⟩
          rw [← hp513, ← hV512]
          rw [← hp513, ← hV512] at F518'
          rw [← hp513] at Gp513 Lp513_a Lp513_b Lp513_c Lp513_p4
          rw [← hV512] at F514'
          have F514 := Aside0.mk F514'
          rw [← hV512] at F515'
          have F515 := Aside0.mk F515'
          rw [← hV512] at F516'
          have F516 := Aside0.mk F516'
          rw [← hV512] at F517'
          have F517 := Aside0.mk F517'
          have F518 := Aside0.mk F518'
          rw [← hV512] at HB519'
          have HB519 := Aside0.mk HB519'
          clear hV512 hp513 F514' F515' F516' F517' F518' HB519'
          refine hK.out _ _ (KA.out _ F514.out F515.out) (fun hHeld2 => ?_)
          clear hK K hHeld
          have hHeld := hHeld2
          clear hHeld2
          (try simp only [Act.put, g4, g5, g6])
          refine wpAnyH_ready (rs := [3]) (by kernel_rfl) (by simp) ?_
          refine AllReadyH.cons (o := ?ob81) ?hb81 (fun K hK => ?sb81) ?mb81
          case hb81 => simp only [g1, g2, g3]; rfl
          case sb81 =>
            go_simp
            refine (words_calls h2 l2 _).mono ?_
            rintro e w520 ⟨rfl, hb⟩
            have F521 := Aside0.mk ((hb.block _ (blk_lt F514.out)).trans F514.out)
            have F522 := Aside0.mk ((hb.block _ (blk_lt F515.out)).trans F515.out)
            have F523 := Aside0.mk ((hb.block _ (blk_lt F516.out)).trans F516.out)
            have F524 := Aside0.mk ((hb.block _ (blk_lt F517.out)).trans F517.out)
            have F525 := Aside0.mk ((hb.block _ (blk_lt F518.out)).trans F518.out)
            have HB526 := Aside0.mk (below_then HB519.out HB519.out.size hb)
            clear hb
            refine hK.out _ _ (KA.out _ F521.out F522.out) (fun hHeld2 => ?_)
            clear hK K hHeld
            have hHeld := hHeld2
            clear hHeld2
            (try simp only [Act.put, g4, g5, g6])
            refine wpAnyH_ready (rs := [6]) (by kernel_rfl) (by simp) ?_
            refine AllReadyH.cons (o := ?ob82) ?hb82 (fun K hK => ?sb82) ?mb82
            case hb82 => simp only [g1, g2, g3]; rfl
            case sb82 =>
              have fz0 := blk_frozen F524.out 0
              have fz1 := blk_frozen F524.out 1
              have y0 := (blk_cell F524.out 0).trans rfl
              have y1 := (blk_cell F524.out 1).trans rfl
              go_simp
              clear fz0 fz1 y0 y1
              have F528' := blk_far (blk_far F521.out (p := ⟨p478, 0, none⟩) (by have := Lp478_a.out; show _ ≠ p478; omega) (.int .u64 l)) (p := ⟨p478, 1, none⟩) (by have := Lp478_a.out; show _ ≠ p478; omega) (.int .u64 h)
              have F529' := blk_far (blk_far F522.out (p := ⟨p478, 0, none⟩) (by have := Lp478_b.out; show _ ≠ p478; omega) (.int .u64 l)) (p := ⟨p478, 1, none⟩) (by have := Lp478_b.out; show _ ≠ p478; omega) (.int .u64 h)
              have F530' := blk_far (blk_far F523.out (p := ⟨p478, 0, none⟩) (by have := Lp478_c.out; show _ ≠ p478; omega) (.int .u64 l)) (p := ⟨p478, 1, none⟩) (by have := Lp478_c.out; show _ ≠ p478; omega) (.int .u64 h)
              have F531' : ((w520.setCell ⟨p478, 0, none⟩ (.int .u64 l)).setCell ⟨p478, 1, none⟩ (.int .u64 h)).heap[p478]? = some (.cells #[.int .u64 l, .int .u64 h] 93 (0, 0)) := by have P := blk_set (blk_set F524.out 0 (.int .u64 l)) 1 (.int .u64 h); simpa using P
              have F532' := blk_far (blk_far F525.out (p := ⟨p478, 0, none⟩) (by show p513 ≠ p478; have := Lp513_p4.out; omega) (.int .u64 l)) (p := ⟨p478, 1, none⟩) (by show p513 ≠ p478; have := Lp513_p4.out; omega) (.int .u64 h)
              have HB533' := bset (bset HB526.out Gp478.out 0 (.int .u64 l)) Gp478.out 1 (.int .u64 h)
              obtain ⟨V527, hV527⟩ : ∃ V, V = ((w520.setCell ⟨p478, 0, none⟩ (.int .u64 l)).setCell ⟨p478, 1, none⟩ (.int .u64 h)) := ⟨_, rfl⟩
              rw [← hV527]
              rw [← hV527] at F528'
              have F528 := Aside0.mk F528'
              clear F528'
              rw [← hV527] at F529'
              have F529 := Aside0.mk F529'
              clear F529'
              rw [← hV527] at F530'
              have F530 := Aside0.mk F530'
              clear F530'
              rw [← hV527] at F531'
              have F531 := Aside0.mk F531'
              clear F531'
              rw [← hV527] at F532'
              have F532 := Aside0.mk F532'
              clear F532'
              rw [← hV527] at HB533'
              have HB533 := Aside0.mk HB533'
              clear HB533'
              clear hV527
              refine hK.out _ _ (KA.out _ F528.out F529.out) (fun hHeld2 => ?_)
              clear hK K hHeld
              have hHeld := hHeld2
              clear hHeld2
              (try simp only [Act.put, g4, g5, g6])
              refine wpAnyH_ready (rs := [7]) (by kernel_rfl) (by simp) ?_
              refine AllReadyH.cons (o := ?ob83) ?hb83 (fun K hK => ?sb83) ?mb83
              case hb83 => simp only [g1, g2, g3]; rfl
              case sb83 =>
                have fz0 := blk_frozen F532.out 0
                have fz1 := blk_frozen F532.out 1
                have y0 := (blk_cell F532.out 0).trans rfl
                have y1 := (blk_cell F532.out 1).trans rfl
                go_simp
                clear fz0 fz1 y0 y1
                have F535' := blk_far (blk_far F528.out (p := ⟨p513, 0, none⟩) (by have := Lp513_a.out; show _ ≠ p513; omega) (.int .u64 l2)) (p := ⟨p513, 1, none⟩) (by have := Lp513_a.out; show _ ≠ p513; omega) (.int .u64 h2)
                have F536' := blk_far (blk_far F529.out (p := ⟨p513, 0, none⟩) (by have := Lp513_b.out; show _ ≠ p513; omega) (.int .u64 l2)) (p := ⟨p513, 1, none⟩) (by have := Lp513_b.out; show _ ≠ p513; omega) (.int .u64 h2)
                have F537' := blk_far (blk_far F530.out (p := ⟨p513, 0, none⟩) (by have := Lp513_c.out; show _ ≠ p513; omega) (.int .u64 l2)) (p := ⟨p513, 1, none⟩) (by have := Lp513_c.out; show _ ≠ p513; omega) (.int .u64 h2)
                have F538' := blk_far (blk_far F531.out (p := ⟨p513, 0, none⟩) (by show p478 ≠ p513; have := Lp513_p4.out; omega) (.int .u64 l2)) (p := ⟨p513, 1, none⟩) (by show p478 ≠ p513; have := Lp513_p4.out; omega) (.int .u64 h2)
                have F539' : ((V527.setCell ⟨p513, 0, none⟩ (.int .u64 l2)).setCell ⟨p513, 1, none⟩ (.int .u64 h2)).heap[p513]? = some (.cells #[.int .u64 l2, .int .u64 h2] 93 (0, 0)) := by have P := blk_set (blk_set F532.out 0 (.int .u64 l2)) 1 (.int .u64 h2); simpa using P
                have HB540' := bset (bset HB533.out Gp513.out 0 (.int .u64 l2)) Gp513.out 1 (.int .u64 h2)
                obtain ⟨V534, hV534⟩ : ∃ V, V = ((V527.setCell ⟨p513, 0, none⟩ (.int .u64 l2)).setCell ⟨p513, 1, none⟩ (.int .u64 h2)) := ⟨_, rfl⟩
                rw [← hV534]
                rw [← hV534] at F535'
                have F535 := Aside0.mk F535'
                clear F535'
                rw [← hV534] at F536'
                have F536 := Aside0.mk F536'
                clear F536'
                rw [← hV534] at F537'
                have F537 := Aside0.mk F537'
                clear F537'
                rw [← hV534] at F538'
                have F538 := Aside0.mk F538'
                clear F538'
                rw [← hV534] at F539'
                have F539 := Aside0.mk F539'
                clear F539'
                rw [← hV534] at HB540'
                have HB540 := Aside0.mk HB540'
                clear HB540'
                clear hV534
                refine hK.out _ _ (KA.out _ F535.out F536.out) (fun hHeld2 => ?_)
                clear hK K hHeld
                have hHeld := hHeld2
                clear hHeld2
                (try simp only [Act.put, g4, g5, g6])
                refine wpAnyH_done (by kernel_rfl) ?_ _
                go_wp2
                go_meet
                case rel => exact ⟨p478, p513, rfl, rfl, (by have := Lp513_p4.out; omega), (by have := Lp478_c.out; omega), (by have := Lp513_c.out; omega), F537.out, F538.out, F539.out, HB540.out⟩
              exact AllReadyH.nil
            exact AllReadyH.nil
          exact AllReadyH.nil
        exact AllReadyH.nil
      refine AllReadyH.cons (o := ?ob84) ?hb84 (fun K hK => ?sb84) ?mb84
      case hb84 => simp only [g1, g2, g3]; rfl
      case sb84 =>
        go_simp
        have F543' := (heap_alloc_old (.cells #[.int .u64 0, .int .u64 0] 93) (blk_lt F410.out)).trans F410.out
        have F544' := (heap_alloc_old (.cells #[.int .u64 0, .int .u64 0] 93) (blk_lt F411.out)).trans F411.out
        have F545' := (heap_alloc_old (.cells #[.int .u64 0, .int .u64 0] 93) (blk_lt F412.out)).trans F412.out
        have F546' := heap_alloc_new w409 (.cells #[.int .u64 0, .int .u64 0] 93)
        have HB547' := HB413.out.alloc HB413.out.size (.cells #[.int .u64 0, .int .u64 0] 93)
        obtain ⟨V541, hV541⟩ : ∃ V, V = w409.alloc (.cells #[.int .u64 0, .int .u64 0] 93) := ⟨_, rfl⟩
        have Gp542 := Aside0.mk (show w.heap.size ≤ w409.heap.size from HB413.out.size)
        have Lp542_a := Aside0.mk (blk_lt F410.out)
        have Lp542_b := Aside0.mk (blk_lt F411.out)
        have Lp542_c := Aside0.mk (blk_lt F412.out)
        obtain ⟨p542, hp542⟩ : ∃ p, p = w409.heap.size := ⟨_, rfl⟩
        rw [← hp542, ← hV541]
        rw [← hp542, ← hV541] at F546'
        rw [← hp542] at Gp542 Lp542_a Lp542_b Lp542_c
        rw [← hV541] at F543'
        have F543 := Aside0.mk F543'
        rw [← hV541] at F544'
        have F544 := Aside0.mk F544'
        rw [← hV541] at F545'
        have F545 := Aside0.mk F545'
        have F546 := Aside0.mk F546'
        rw [← hV541] at HB547'
        have HB547 := Aside0.mk HB547'
        clear hV541 hp542 F543' F544' F545' F546' HB547'
        refine hK.out _ _ (KA.out _ F543.out F544.out) (fun hHeld2 => ?_)
        clear hK K hHeld
        have hHeld := hHeld2
        clear hHeld2
        (try simp only [Act.put, g4, g5, g6])
        refine wpAnyH_ready (rs := [3, 4]) (by kernel_rfl) (by simp) ?_
        refine AllReadyH.cons (o := ?ob85) ?hb85 (fun K hK => ?sb85) ?mb85
        case hb85 => simp only [g1, g2, g3]; rfl
        case sb85 =>
          go_simp
          refine (words_calls h2 l2 _).mono ?_
          rintro e w548 ⟨rfl, hb⟩
          have F549 := Aside0.mk ((hb.block _ (blk_lt F543.out)).trans F543.out)
          have F550 := Aside0.mk ((hb.block _ (blk_lt F544.out)).trans F544.out)
          have F551 := Aside0.mk ((hb.block _ (blk_lt F545.out)).trans F545.out)
          have F552 := Aside0.mk ((hb.block _ (blk_lt F546.out)).trans F546.out)
          have HB553 := Aside0.mk (below_then HB547.out HB547.out.size hb)
          clear hb
          refine hK.out _ _ (KA.out _ F549.out F550.out) (fun hHeld2 => ?_)
          clear hK K hHeld
          have hHeld := hHeld2
          clear hHeld2
          (try simp only [Act.put, g4, g5, g6])
          refine wpAnyH_ready (rs := [4]) (by kernel_rfl) (by simp) ?_
          refine AllReadyH.cons (o := ?ob86) ?hb86 (fun K hK => ?sb86) ?mb86
          case hb86 => simp only [g1, g2, g3]; rfl
          case sb86 =>
            go_simp
            have F556' := (heap_alloc_old (.cells #[.int .u64 0, .int .u64 0] 93) (blk_lt F549.out)).trans F549.out
            have F557' := (heap_alloc_old (.cells #[.int .u64 0, .int .u64 0] 93) (blk_lt F550.out)).trans F550.out
            have F558' := (heap_alloc_old (.cells #[.int .u64 0, .int .u64 0] 93) (blk_lt F551.out)).trans F551.out
            have F559' := (heap_alloc_old (.cells #[.int .u64 0, .int .u64 0] 93) (blk_lt F552.out)).trans F552.out
            have F560' := heap_alloc_new w548 (.cells #[.int .u64 0, .int .u64 0] 93)
            have HB561' := HB553.out.alloc HB553.out.size (.cells #[.int .u64 0, .int .u64 0] 93)
            obtain ⟨V554, hV554⟩ : ∃ V, V = w548.alloc (.cells #[.int .u64 0, .int .u64 0] 93) := ⟨_, rfl⟩
            have Gp555 := Aside0.mk (show w.heap.size ≤ w548.heap.size from HB553.out.size)
            have Lp555_a := Aside0.mk (blk_lt F549.out)
            have Lp555_b := Aside0.mk (blk_lt F550.out)
            have Lp555_c := Aside0.mk (blk_lt F551.out)
            have Lp555_p5 := Aside0.mk (blk_lt F552.out)
            obtain ⟨p555, hp555⟩ : ∃ p, p = w548.heap.size := ⟨_, rfl⟩
            rw [← hp555, ← hV554]
            rw [← hp555, ← hV554] at F560'
            rw [← hp555] at Gp555 Lp555_a Lp555_b Lp555_c Lp555_p5
            rw [← hV554] at F556'
            have F556 := Aside0.mk F556'
            rw [← hV554] at F557'
            have F557 := Aside0.mk F557'
            rw [← hV554] at F558'
            have F558 := Aside0.mk F558'
            rw [← hV554] at F559'
            have F559 := Aside0.mk F559'
            have F560 := Aside0.mk F560'
            rw [← hV554] at HB561'
            have HB561 := Aside0.mk HB561'
            clear hV554 hp555 F556' F557' F558' F559' F560' HB561'
            refine hK.out _ _ (KA.out _ F556.out F557.out) (fun hHeld2 => ?_)
            clear hK K hHeld
            have hHeld := hHeld2
            clear hHeld2
            (try simp only [Act.put, g4, g5, g6])
            refine wpAnyH_ready (rs := [6]) (by kernel_rfl) (by simp) ?_
            refine AllReadyH.cons (o := ?ob87) ?hb87 (fun K hK => ?sb87) ?mb87
            case hb87 => simp only [g1, g2, g3]; rfl
            case sb87 =>
              have fz0 := blk_frozen F560.out 0
              have fz1 := blk_frozen F560.out 1
              have y0 := (blk_cell F560.out 0).trans rfl
              have y1 := (blk_cell F560.out 1).trans rfl
              go_simp
              clear fz0 fz1 y0 y1
              have F563' := blk_far (blk_far F556.out (p := ⟨p555, 0, none⟩) (by have := Lp555_a.out; show _ ≠ p555; omega) (.int .u64 l)) (p := ⟨p555, 1, none⟩) (by have := Lp555_a.out; show _ ≠ p555; omega) (.int .u64 h)
              have F564' := blk_far (blk_far F557.out (p := ⟨p555, 0, none⟩) (by have := Lp555_b.out; show _ ≠ p555; omega) (.int .u64 l)) (p := ⟨p555, 1, none⟩) (by have := Lp555_b.out; show _ ≠ p555; omega) (.int .u64 h)
              have F565' := blk_far (blk_far F558.out (p := ⟨p555, 0, none⟩) (by have := Lp555_c.out; show _ ≠ p555; omega) (.int .u64 l)) (p := ⟨p555, 1, none⟩) (by have := Lp555_c.out; show _ ≠ p555; omega) (.int .u64 h)
              have F566' := blk_far (blk_far F559.out (p := ⟨p555, 0, none⟩) (by show p542 ≠ p555; have := Lp555_p5.out; omega) (.int .u64 l)) (p := ⟨p555, 1, none⟩) (by show p542 ≠ p555; have := Lp555_p5.out; omega) (.int .u64 h)
              have F567' : ((V554.setCell ⟨p555, 0, none⟩ (.int .u64 l)).setCell ⟨p555, 1, none⟩ (.int .u64 h)).heap[p555]? = some (.cells #[.int .u64 l, .int .u64 h] 93 (0, 0)) := by have P := blk_set (blk_set F560.out 0 (.int .u64 l)) 1 (.int .u64 h); simpa using P
              have HB568' := bset (bset HB561.out Gp555.out 0 (.int .u64 l)) Gp555.out 1 (.int .u64 h)
              obtain ⟨V562, hV562⟩ : ∃ V, V = ((V554.setCell ⟨p555, 0, none⟩ (.int .u64 l)).setCell ⟨p555, 1, none⟩ (.int .u64 h)) := ⟨_, rfl⟩
              rw [← hV562]
              rw [← hV562] at F563'
              have F563 := Aside0.mk F563'
              clear F563'
              rw [← hV562] at F564'
              have F564 := Aside0.mk F564'
              clear F564'
              rw [← hV562] at F565'
              have F565 := Aside0.mk F565'
              clear F565'
              rw [← hV562] at F566'
              have F566 := Aside0.mk F566'
              clear F566'
              rw [← hV562] at F567'
              have F567 := Aside0.mk F567'
              clear F567'
              rw [← hV562] at HB568'
              have HB568 := Aside0.mk HB568'
              clear HB568'
              clear hV562
              refine hK.out _ _ (KA.out _ F563.out F564.out) (fun hHeld2 => ?_)
              clear hK K hHeld
              have hHeld := hHeld2
              clear hHeld2
              (try simp only [Act.put, g4, g5, g6])
              refine wpAnyH_ready (rs := [7]) (by kernel_rfl) (by simp) ?_
              refine AllReadyH.cons (o := ?ob88) ?hb88 (fun K hK => ?sb88) ?mb88
              case hb88 => simp only [g1, g2, g3]; rfl
              case sb88 =>
                have fz0 := blk_frozen F566.out 0
                have fz1 := blk_frozen F566.out 1
                have y0 := (blk_cell F566.out 0).trans rfl
                have y1 := (blk_cell F566.out 1).trans rfl
                go_simp
                clear fz0 fz1 y0 y1
                have F570' := blk_far (blk_far F563.out (p := ⟨p542, 0, none⟩) (by have := Lp542_a.out; show _ ≠ p542; omega) (.int .u64 l2)) (p := ⟨p542, 1, none⟩) (by have := Lp542_a.out; show _ ≠ p542; omega) (.int .u64 h2)
                have F571' := blk_far (blk_far F564.out (p := ⟨p542, 0, none⟩) (by have := Lp542_b.out; show _ ≠ p542; omega) (.int .u64 l2)) (p := ⟨p542, 1, none⟩) (by have := Lp542_b.out; show _ ≠ p542; omega) (.int .u64 h2)
                have F572' := blk_far (blk_far F565.out (p := ⟨p542, 0, none⟩) (by have := Lp542_c.out; show _ ≠ p542; omega) (.int .u64 l2)) (p := ⟨p542, 1, none⟩) (by have := Lp542_c.out; show _ ≠ p542; omega) (.int .u64 h2)
                have F573' : ((V562.setCell ⟨p542, 0, none⟩ (.int .u64 l2)).setCell ⟨p542, 1, none⟩ (.int .u64 h2)).heap[p542]? = some (.cells #[.int .u64 l2, .int .u64 h2] 93 (0, 0)) := by have P := blk_set (blk_set F566.out 0 (.int .u64 l2)) 1 (.int .u64 h2); simpa using P
                have F574' := blk_far (blk_far F567.out (p := ⟨p542, 0, none⟩) (by show p555 ≠ p542; have := Lp555_p5.out; omega) (.int .u64 l2)) (p := ⟨p542, 1, none⟩) (by show p555 ≠ p542; have := Lp555_p5.out; omega) (.int .u64 h2)
                have HB575' := bset (bset HB568.out Gp542.out 0 (.int .u64 l2)) Gp542.out 1 (.int .u64 h2)
                obtain ⟨V569, hV569⟩ : ∃ V, V = ((V562.setCell ⟨p542, 0, none⟩ (.int .u64 l2)).setCell ⟨p542, 1, none⟩ (.int .u64 h2)) := ⟨_, rfl⟩
                rw [← hV569]
                rw [← hV569] at F570'
                have F570 := Aside0.mk F570'
                clear F570'
                rw [← hV569] at F571'
                have F571 := Aside0.mk F571'
                clear F571'
                rw [← hV569] at F572'
                have F572 := Aside0.mk F572'
                clear F572'
                rw [← hV569] at F573'
                have F573 := Aside0.mk F573'
                clear F573'
                rw [← hV569] at F574'
                have F574 := Aside0.mk F574'
                clear F574'
                rw [← hV569] at HB575'
                have HB575 := Aside0.mk HB575'
                clear HB575'
                clear hV569
                refine hK.out _ _ (KA.out _ F570.out F571.out) (fun hHeld2 => ?_)
                clear hK K hHeld
                have hHeld := hHeld2
                clear hHeld2
                (try simp only [Act.put, g4, g5, g6])
                refine wpAnyH_done (by kernel_rfl) ?_ _
                go_wp2
                go_meet
                case rel => exact ⟨p555, p542, rfl, rfl, (by have := Lp555_p5.out; omega), (by have := Lp555_c.out; omega), (by have := Lp542_c.out; omega), F572.out, F574.out, F573.out, HB575.out⟩
              exact AllReadyH.nil
            exact AllReadyH.nil
          exact AllReadyH.nil
        refine AllReadyH.cons (o := ?ob89) ?hb89 (fun K hK => ?sb89) ?mb89
        case hb89 => simp only [g1, g2, g3]; rfl
        case sb89 =>
          go_simp
          have F578' := (heap_alloc_old (.cells #[.int .u64 0, .int .u64 0] 93) (blk_lt F543.out)).trans F543.out
          have F579' := (heap_alloc_old (.cells #[.int .u64 0, .int .u64 0] 93) (blk_lt F544.out)).trans F544.out
          have F580' := (heap_alloc_old (.cells #[.int .u64 0, .int .u64 0] 93) (blk_lt F545.out)).trans F545.out
          have F581' := (heap_alloc_old (.cells #[.int .u64 0, .int .u64 0] 93) (blk_lt F546.out)).trans F546.out
          have F582' := heap_alloc_new V541 (.cells #[.int .u64 0, .int .u64 0] 93)
          have HB583' := HB547.out.alloc HB547.out.size (.cells #[.int .u64 0, .int .u64 0] 93)
          obtain ⟨V576, hV576⟩ : ∃ V, V = V541.alloc (.cells #[.int .u64 0, .int .u64 0] 93) := ⟨_, rfl⟩
          have Gp577 := Aside0.mk (show w.heap.size ≤ V541.heap.size from HB547.out.size)
          have Lp577_a := Aside0.mk (blk_lt F543.out)
          have Lp577_b := Aside0.mk (blk_lt F544.out)
          have Lp577_c := Aside0.mk (blk_lt F545.out)
          have Lp577_p5 := Aside0.mk (blk_lt F546.out)
          obtain ⟨p577, hp577⟩ : ∃ p, p = V541.heap.size := ⟨_, rfl⟩
          rw [← hp577, ← hV576]
          rw [← hp577, ← hV576] at F582'
          rw [← hp577] at Gp577 Lp577_a Lp577_b Lp577_c Lp577_p5
          rw [← hV576] at F578'
          have F578 := Aside0.mk F578'
          rw [← hV576] at F579'
          have F579 := Aside0.mk F579'
          rw [← hV576] at F580'
          have F580 := Aside0.mk F580'
          rw [← hV576] at F581'
          have F581 := Aside0.mk F581'
          have F582 := Aside0.mk F582'
          rw [← hV576] at HB583'
          have HB583 := Aside0.mk HB583'
          clear hV576 hp577 F578' F579' F580' F581' F582' HB583'
          refine hK.out _ _ (KA.out _ F578.out F579.out) (fun hHeld2 => ?_)
          clear hK K hHeld
          have hHeld := hHeld2
          clear hHeld2
          (try simp only [Act.put, g4, g5, g6])
          refine wpAnyH_ready (rs := [3]) (by kernel_rfl) (by simp) ?_
          refine AllReadyH.cons (o := ?ob90) ?hb90 (fun K hK => ?sb90) ?mb90
          case hb90 => simp only [g1, g2, g3]; rfl
          case sb90 =>
            go_simp
            refine (words_calls h2 l2 _).mono ?_
            rintro e w584 ⟨rfl, hb⟩
            have F585 := Aside0.mk ((hb.block _ (blk_lt F578.out)).trans F578.out)
            have F586 := Aside0.mk ((hb.block _ (blk_lt F579.out)).trans F579.out)
            have F587 := Aside0.mk ((hb.block _ (blk_lt F580.out)).trans F580.out)
            have F588 := Aside0.mk ((hb.block _ (blk_lt F581.out)).trans F581.out)
            have F589 := Aside0.mk ((hb.block _ (blk_lt F582.out)).trans F582.out)
            have HB590 := Aside0.mk (below_then HB583.out HB583.out.size hb)
            clear hb
            refine hK.out _ _ (KA.out _ F585.out F586.out) (fun hHeld2 => ?_)
            clear hK K hHeld
            have hHeld := hHeld2
            clear hHeld2
            (try simp only [Act.put, g4, g5, g6])
            refine wpAnyH_ready (rs := [6]) (by kernel_rfl) (by simp) ?_
            refine AllReadyH.cons (o := ?ob91) ?hb91 (fun K hK => ?sb91) ?mb91
            case hb91 => simp only [g1, g2, g3]; rfl
            case sb91 =>
              have fz0 := blk_frozen F589.out 0
              have fz1 := blk_frozen F589.out 1
              have y0 := (blk_cell F589.out 0).trans rfl
              have y1 := (blk_cell F589.out 1).trans rfl
              go_simp
              clear fz0 fz1 y0 y1
              have F592' := blk_far (blk_far F585.out (p := ⟨p577, 0, none⟩) (by have := Lp577_a.out; show _ ≠ p577; omega) (.int .u64 l)) (p := ⟨p577, 1, none⟩) (by have := Lp577_a.out; show _ ≠ p577; omega) (.int .u64 h)
              have F593' := blk_far (blk_far F586.out (p := ⟨p577, 0, none⟩) (by have := Lp577_b.out; show _ ≠ p577; omega) (.int .u64 l)) (p := ⟨p577, 1, none⟩) (by have := Lp577_b.out; show _ ≠ p577; omega) (.int .u64 h)
              have F594' := blk_far (blk_far F587.out (p := ⟨p577, 0, none⟩) (by have := Lp577_c.out; show _ ≠ p577; omega) (.int .u64 l)) (p := ⟨p577, 1, none⟩) (by have := Lp577_c.out; show _ ≠ p577; omega) (.int .u64 h)
              have F595' := blk_far (blk_far F588.out (p := ⟨p577, 0, none⟩) (by show p542 ≠ p577; have := Lp577_p5.out; omega) (.int .u64 l)) (p := ⟨p577, 1, none⟩) (by show p542 ≠ p577; have := Lp577_p5.out; omega) (.int .u64 h)
              have F596' : ((w584.setCell ⟨p577, 0, none⟩ (.int .u64 l)).setCell ⟨p577, 1, none⟩ (.int .u64 h)).heap[p577]? = some (.cells #[.int .u64 l, .int .u64 h] 93 (0, 0)) := by have P := blk_set (blk_set F589.out 0 (.int .u64 l)) 1 (.int .u64 h); simpa using P
              have HB597' := bset (bset HB590.out Gp577.out 0 (.int .u64 l)) Gp577.out 1 (.int .u64 h)
              obtain ⟨V591, hV591⟩ : ∃ V, V = ((w584.setCell ⟨p577, 0, none⟩ (.int .u64 l)).setCell ⟨p577, 1, none⟩ (.int .u64 h)) := ⟨_, rfl⟩
              rw [← hV591]
              rw [← hV591] at F592'
              have F592 := Aside0.mk F592'
              clear F592'
              rw [← hV591] at F593'
              have F593 := Aside0.mk F593'
              clear F593'
              rw [← hV591] at F594'
              have F594 := Aside0.mk F594'
              clear F594'
              rw [← hV591] at F595'
              have F595 := Aside0.mk F595'
              clear F595'
              rw [← hV591] at F596'
              have F596 := Aside0.mk F596'
              clear F596'
              rw [← hV591] at HB597'
              have HB597 := Aside0.mk HB597'
              clear HB597'
              clear hV591
              refine hK.out _ _ (KA.out _ F592.out F593.out) (fun hHeld2 => ?_)
              clear hK K hHeld
              have hHeld := hHeld2
              clear hHeld2
              (try simp only [Act.put, g4, g5, g6])
              refine wpAnyH_ready (rs := [7]) (by kernel_rfl) (by simp) ?_
              refine AllReadyH.cons (o := ?ob92) ?hb92 (fun K hK => ?sb92) ?mb92
              case hb92 => simp only [g1, g2, g3]; rfl
              case sb92 =>
                have fz0 := blk_frozen F595.out 0
                have fz1 := blk_frozen F595.out 1
                have y0 := (blk_cell F595.out 0).trans rfl
                have y1 := (blk_cell F595.out 1).trans rfl
                go_simp
                clear fz0 fz1 y0 y1
                have F599' := blk_far (blk_far F592.out (p := ⟨p542, 0, none⟩) (by have := Lp542_a.out; show _ ≠ p542; omega) (.int .u64 l2)) (p := ⟨p542, 1, none⟩) (by have := Lp542_a.out; show _ ≠ p542; omega) (.int .u64 h2)
                have F600' := blk_far (blk_far F593.out (p := ⟨p542, 0, none⟩) (by have := Lp542_b.out; show _ ≠ p542; omega) (.int .u64 l2)) (p := ⟨p542, 1, none⟩) (by have := Lp542_b.out; show _ ≠ p542; omega) (.int .u64 h2)
                have F601' := blk_far (blk_far F594.out (p := ⟨p542, 0, none⟩) (by have := Lp542_c.out; show _ ≠ p542; omega) (.int .u64 l2)) (p := ⟨p542, 1, none⟩) (by have := Lp542_c.out; show _ ≠ p542; omega) (.int .u64 h2)
                have F602' : ((V591.setCell ⟨p542, 0, none⟩ (.int .u64 l2)).setCell ⟨p542, 1, none⟩ (.int .u64 h2)).heap[p542]? = some (.cells #[.int .u64 l2, .int .u64 h2] 93 (0, 0)) := by have P := blk_set (blk_set F595.out 0 (.int .u64 l2)) 1 (.int .u64 h2); simpa using P
                have F603' := blk_far (blk_far F596.out (p := ⟨p542, 0, none⟩) (by show p577 ≠ p542; have := Lp577_p5.out; omega) (.int .u64 l2)) (p := ⟨p542, 1, none⟩) (by show p577 ≠ p542; have := Lp577_p5.out; omega) (.int .u64 h2)
                have HB604' := bset (bset HB597.out Gp542.out 0 (.int .u64 l2)) Gp542.out 1 (.int .u64 h2)
                obtain ⟨V598, hV598⟩ : ∃ V, V = ((V591.setCell ⟨p542, 0, none⟩ (.int .u64 l2)).setCell ⟨p542, 1, none⟩ (.int .u64 h2)) := ⟨_, rfl⟩
                rw [← hV598]
                rw [← hV598] at F599'
                have F599 := Aside0.mk F599'
                clear F599'
                rw [← hV598] at F600'
                have F600 := Aside0.mk F600'
                clear F600'
                rw [← hV598] at F601'
                have F601 := Aside0.mk F601'
                clear F601'
                rw [← hV598] at F602'
                have F602 := Aside0.mk F602'
                clear F602'
                rw [← hV598] at F603'
                have F603 := Aside0.mk F603'
                clear F603'
                rw [← hV598] at HB604'
                have HB604 := Aside0.mk HB604'
                clear HB604'
                clear hV598
                refine hK.out _ _ (KA.out _ F599.out F600.out) (fun hHeld2 => ?_)
                clear hK K hHeld
                have hHeld := hHeld2
                clear hHeld2
                (try simp only [Act.put, g4, g5, g6])
                refine wpAnyH_done (by kernel_rfl) ?_ _
                go_wp2
                go_meet
                case rel => exact ⟨p577, p542, rfl, rfl, (by have := Lp577_p5.out; omega), (by have := Lp577_c.out; omega), (by have := Lp542_c.out; omega), F601.out, F603.out, F602.out, HB604.out⟩
              exact AllReadyH.nil
            exact AllReadyH.nil
          exact AllReadyH.nil
        exact AllReadyH.nil
      exact AllReadyH.nil
    refine AllReadyH.cons (o := ?ob93) ?hb93 (fun K hK => ?sb93) ?mb93
    case hb93 => simp only [g1, g2, g3]; rfl
    case sb93 =>
      go_simp
      have F607' := (heap_alloc_old (.cells #[.int .u64 0, .int .u64 0] 93) (blk_lt F01.out)).trans F01.out
      have F608' := (heap_alloc_old (.cells #[.int .u64 0, .int .u64 0] 93) (blk_lt F02.out)).trans F02.out
      have F609' := (heap_alloc_old (.cells #[.int .u64 0, .int .u64 0] 93) (blk_lt F03.out)).trans F03.out
      have F610' := heap_alloc_new Wd (.cells #[.int .u64 0, .int .u64 0] 93)
      have HB611' := HB0d.out.alloc HB0d.out.size (.cells #[.int .u64 0, .int .u64 0] 93)
      obtain ⟨V605, hV605⟩ : ∃ V, V = Wd.alloc (.cells #[.int .u64 0, .int .u64 0] 93) := ⟨_, rfl⟩
      have Gp606 := Aside0.mk (show w.heap.size ≤ Wd.heap.size from HB0d.out.size)
      have Lp606_a := Aside0.mk (blk_lt F01.out)
      have Lp606_b := Aside0.mk (blk_lt F02.out)
      have Lp606_c := Aside0.mk (blk_lt F03.out)
      obtain ⟨p606, hp606⟩ : ∃ p, p = Wd.heap.size := ⟨_, rfl⟩
      rw [← hp606, ← hV605]
      rw [← hp606, ← hV605] at F610'
      rw [← hp606] at Gp606 Lp606_a Lp606_b Lp606_c
      rw [← hV605] at F607'
      have F607 := Aside0.mk F607'
      rw [← hV605] at F608'
      have F608 := Aside0.mk F608'
      rw [← hV605] at F609'
      have F609 := Aside0.mk F609'
      have F610 := Aside0.mk F610'
      rw [← hV605] at HB611'
      have HB611 := Aside0.mk HB611'
      clear hV605 hp606 F607' F608' F609' F610' HB611'
      refine hK.out _ _ (KA.out _ F607.out F608.out) (fun hHeld2 => ?_)
      clear hK K hHeld
      have hHeld := hHeld2
      clear hHeld2
      (try simp only [Act.put, g4, g5, g6])
      refine wpAnyH_ready (rs := [1, 5]) (by kernel_rfl) (by simp) ?_
      refine AllReadyH.cons (o := ?ob94) ?hb94 (fun K hK => ?sb94) ?mb94
      case hb94 => simp only [g1, g2, g3]; rfl
      case sb94 =>
        go_simp
        refine (words_calls h l _).mono ?_
        rintro e w612 ⟨rfl, hb⟩
        have F613 := Aside0.mk ((hb.block _ (blk_lt F607.out)).trans F607.out)
        have F614 := Aside0.mk ((hb.block _ (blk_lt F608.out)).trans F608.out)
        have F615 := Aside0.mk ((hb.block _ (blk_lt F609.out)).trans F609.out)
        have F616 := Aside0.mk ((hb.block _ (blk_lt F610.out)).trans F610.out)
        have HB617 := Aside0.mk (below_then HB611.out HB611.out.size hb)
        clear hb
        refine hK.out _ _ (KA.out _ F613.out F614.out) (fun hHeld2 => ?_)
        clear hK K hHeld
        have hHeld := hHeld2
        clear hHeld2
        (try simp only [Act.put, g4, g5, g6])
        refine wpAnyH_ready (rs := [3, 5]) (by kernel_rfl) (by simp) ?_
        refine AllReadyH.cons (o := ?ob95) ?hb95 (fun K hK => ?sb95) ?mb95
        case hb95 => simp only [g1, g2, g3]; rfl
        case sb95 =>
          go_simp
          refine (words_calls h2 l2 _).mono ?_
          rintro e w618 ⟨rfl, hb⟩
          have F619 := Aside0.mk ((hb.block _ (blk_lt F613.out)).trans F613.out)
          have F620 := Aside0.mk ((hb.block _ (blk_lt F614.out)).trans F614.out)
          have F621 := Aside0.mk ((hb.block _ (blk_lt F615.out)).trans F615.out)
          have F622 := Aside0.mk ((hb.block _ (blk_lt F616.out)).trans F616.out)
          have HB623 := Aside0.mk (below_then HB617.out HB617.out.size hb)
          clear hb
          refine hK.out _ _ (KA.out _ F619.out F620.out) (fun hHeld2 => ?_)
          clear hK K hHeld
          have hHeld := hHeld2
          clear hHeld2
          (try simp only [Act.put, g4, g5, g6])
          refine wpAnyH_ready (rs := [5]) (by kernel_rfl) (by simp) ?_
          refine AllReadyH.cons (o := ?ob96) ?hb96 (fun K hK => ?sb96) ?mb96
          case hb96 => simp only [g1, g2, g3]; rfl
          case sb96 =>
            go_simp
            have F626' := (heap_alloc_old (.cells #[.int .u64 0, .int .u64 0] 93) (blk_lt F619.out)).trans F619.out
            have F627' := (heap_alloc_old (.cells #[.int .u64 0, .int .u64 0] 93) (blk_lt F620.out)).trans F620.out
            have F628' := (heap_alloc_old (.cells #[.int .u64 0, .int .u64 0] 93) (blk_lt F621.out)).trans F621.out
            have F629' := (heap_alloc_old (.cells #[.int .u64 0, .int .u64 0] 93) (blk_lt F622.out)).trans F622.out
            have F630' := heap_alloc_new w618 (.cells #[.int .u64 0, .int .u64 0] 93)
            have HB631' := HB623.out.alloc HB623.out.size (.cells #[.int .u64 0, .int .u64 0] 93)
            obtain ⟨V624, hV624⟩ : ∃ V, V = w618.alloc (.cells #[.int .u64 0, .int .u64 0] 93) := ⟨_, rfl⟩
            have Gp625 := Aside0.mk (show w.heap.size ≤ w618.heap.size from HB623.out.size)
            have Lp625_a := Aside0.mk (blk_lt F619.out)
            have Lp625_b := Aside0.mk (blk_lt F620.out)
            have Lp625_c := Aside0.mk (blk_lt F621.out)
            have Lp625_p4 := Aside0.mk (blk_lt F622.out)
            obtain ⟨p625, hp625⟩ : ∃ p, p = w618.heap.size := ⟨_, rfl⟩
            rw [← hp625, ← hV624]
            rw [← hp625, ← hV624] at F630'
            rw [← hp625] at Gp625 Lp625_a Lp625_b Lp625_c Lp625_p4
            rw [← hV624] at F626'
            have F626 := Aside0.mk F626'
            rw [← hV624] at F627'
            have F627 := Aside0.mk F627'
            rw [← hV624] at F628'
            have F628 := Aside0.mk F628'
            rw [← hV624] at F629'
            have F629 := Aside0.mk F629'
            have F630 := Aside0.mk F630'
            rw [← hV624] at HB631'
            have HB631 := Aside0.mk HB631'
            clear hV624 hp625 F626' F627' F628' F629' F630' HB631'
            refine hK.out _ _ (KA.out _ F626.out F627.out) (fun hHeld2 => ?_)
            clear hK K hHeld
            have hHeld := hHeld2
            clear hHeld2
            (try simp only [Act.put, g4, g5, g6])
            refine wpAnyH_ready (rs := [6]) (by kernel_rfl) (by simp) ?_
            refine AllReadyH.cons (o := ?ob97) ?hb97 (fun K hK => ?sb97) ?mb97
            case hb97 => simp only [g1, g2, g3]; rfl
            case sb97 =>
              have fz0 := blk_frozen F629.out 0
              have fz1 := blk_frozen F629.out 1
              have y0 := (blk_cell F629.out 0).trans rfl
              have y1 := (blk_cell F629.out 1).trans rfl
              go_simp
              clear fz0 fz1 y0 y1
              have F633' := blk_far (blk_far F626.out (p := ⟨p606, 0, none⟩) (by have := Lp606_a.out; show _ ≠ p606; omega) (.int .u64 l)) (p := ⟨p606, 1, none⟩) (by have := Lp606_a.out; show _ ≠ p606; omega) (.int .u64 h)
              have F634' := blk_far (blk_far F627.out (p := ⟨p606, 0, none⟩) (by have := Lp606_b.out; show _ ≠ p606; omega) (.int .u64 l)) (p := ⟨p606, 1, none⟩) (by have := Lp606_b.out; show _ ≠ p606; omega) (.int .u64 h)
              have F635' := blk_far (blk_far F628.out (p := ⟨p606, 0, none⟩) (by have := Lp606_c.out; show _ ≠ p606; omega) (.int .u64 l)) (p := ⟨p606, 1, none⟩) (by have := Lp606_c.out; show _ ≠ p606; omega) (.int .u64 h)
              have F636' : ((V624.setCell ⟨p606, 0, none⟩ (.int .u64 l)).setCell ⟨p606, 1, none⟩ (.int .u64 h)).heap[p606]? = some (.cells #[.int .u64 l, .int .u64 h] 93 (0, 0)) := by have P := blk_set (blk_set F629.out 0 (.int .u64 l)) 1 (.int .u64 h); simpa using P
              have F637' := blk_far (blk_far F630.out (p := ⟨p606, 0, none⟩) (by show p625 ≠ p606; have := Lp625_p4.out; omega) (.int .u64 l)) (p := ⟨p606, 1, none⟩) (by show p625 ≠ p606; have := Lp625_p4.out; omega) (.int .u64 h)
              have HB638' := bset (bset HB631.out Gp606.out 0 (.int .u64 l)) Gp606.out 1 (.int .u64 h)
              obtain ⟨V632, hV632⟩ : ∃ V, V = ((V624.setCell ⟨p606, 0, none⟩ (.int .u64 l)).setCell ⟨p606, 1, none⟩ (.int .u64 h)) := ⟨_, rfl⟩
              rw [← hV632]
              rw [← hV632] at F633'
              have F633 := Aside0.mk F633'
              clear F633'
              rw [← hV632] at F634'
              have F634 := Aside0.mk F634'
              clear F634'
              rw [← hV632] at F635'
              have F635 := Aside0.mk F635'
              clear F635'
              rw [← hV632] at F636'
              have F636 := Aside0.mk F636'
              clear F636'
              rw [← hV632] at F637'
              have F637 := Aside0.mk F637'
              clear F637'
              rw [← hV632] at HB638'
              have HB638 := Aside0.mk HB638'
              clear HB638'
              clear hV632
              refine hK.out _ _ (KA.out _ F633.out F634.out) (fun hHeld2 => ?_)
              clear hK K hHeld
              have hHeld := hHeld2
              clear hHeld2
              (try simp only [Act.put, g4, g5, g6])
              refine wpAnyH_ready (rs := [7]) (by kernel_rfl) (by simp) ?_
              refine AllReadyH.cons (o := ?ob98) ?hb98 (fun K hK => ?sb98) ?mb98
              case hb98 => simp only [g1, g2, g3]; rfl
              case sb98 =>
                have fz0 := blk_frozen F637.out 0
                have fz1 := blk_frozen F637.out 1
                have y0 := (blk_cell F637.out 0).trans rfl
                have y1 := (blk_cell F637.out 1).trans rfl
                go_simp
                clear fz0 fz1 y0 y1
                have F640' := blk_far (blk_far F633.out (p := ⟨p625, 0, none⟩) (by have := Lp625_a.out; show _ ≠ p625; omega) (.int .u64 l2)) (p := ⟨p625, 1, none⟩) (by have := Lp625_a.out; show _ ≠ p625; omega) (.int .u64 h2)
                have F641' := blk_far (blk_far F634.out (p := ⟨p625, 0, none⟩) (by have := Lp625_b.out; show _ ≠ p625; omega) (.int .u64 l2)) (p := ⟨p625, 1, none⟩) (by have := Lp625_b.out; show _ ≠ p625; omega) (.int .u64 h2)
                have F642' := blk_far (blk_far F635.out (p := ⟨p625, 0, none⟩) (by have := Lp625_c.out; show _ ≠ p625; omega) (.int .u64 l2)) (p := ⟨p625, 1, none⟩) (by have := Lp625_c.out; show _ ≠ p625; omega) (.int .u64 h2)
                have F643' := blk_far (blk_far F636.out (p := ⟨p625, 0, none⟩) (by show p606 ≠ p625; have := Lp625_p4.out; omega) (.int .u64 l2)) (p := ⟨p625, 1, none⟩) (by show p606 ≠ p625; have := Lp625_p4.out; omega) (.int .u64 h2)
                have F644' : ((V632.setCell ⟨p625, 0, none⟩ (.int .u64 l2)).setCell ⟨p625, 1, none⟩ (.int .u64 h2)).heap[p625]? = some (.cells #[.int .u64 l2, .int .u64 h2] 93 (0, 0)) := by have P := blk_set (blk_set F637.out 0 (.int .u64 l2)) 1 (.int .u64 h2); simpa using P
                have HB645' := bset (bset HB638.out Gp625.out 0 (.int .u64 l2)) Gp625.out 1 (.int .u64 h2)
                obtain ⟨V639, hV639⟩ : ∃ V, V = ((V632.setCell ⟨p625, 0, none⟩ (.int .u64 l2)).setCell ⟨p625, 1, none⟩ (.int .u64 h2)) := ⟨_, rfl⟩
                rw [← hV639]
                rw [← hV639] at F640'
                have F640 := Aside0.mk F640'
                clear F640'
                rw [← hV639] at F641'
                have F641 := Aside0.mk F641'
                clear F641'
                rw [← hV639] at F642'
                have F642 := Aside0.mk F642'
                clear F642'
                rw [← hV639] at F643'
                have F643 := Aside0.mk F643'
                clear F643'
                rw [← hV639] at F644'
                have F644 := Aside0.mk F644'
                clear F644'
                rw [← hV639] at HB645'
                have HB645 := Aside0.mk HB645'
                clear HB645'
                clear hV639
                refine hK.out _ _ (KA.out _ F640.out F641.out) (fun hHeld2 => ?_)
                clear hK K hHeld
                have hHeld := hHeld2
                clear hHeld2
                (try simp only [Act.put, g4, g5, g6])
                refine wpAnyH_done (by kernel_rfl) ?_ _
                go_wp2
                go_meet
                case rel => exact ⟨p606, p625, rfl, rfl, (by have := Lp625_p4.out; omega), (by have := Lp606_c.out; omega), (by have := Lp625_c.out; omega), F642.out, F643.out, F644.out, HB645.out⟩
              exact AllReadyH.nil
            exact AllReadyH.nil
          exact AllReadyH.nil
        refine AllReadyH.cons (o := ?ob99) ?hb99 (fun K hK => ?sb99) ?mb99
        case hb99 => simp only [g1, g2, g3]; rfl
        case sb99 =>
          go_simp
          have F648' := (heap_alloc_old (.cells #[.int .u64 0, .int .u64 0] 93) (blk_lt F613.out)).trans F613.out
          have F649' := (heap_alloc_old (.cells #[.int .u64 0, .int .u64 0] 93) (blk_lt F614.out)).trans F614.out
          have F650' := (heap_alloc_old (.cells #[.int .u64 0, .int .u64 0] 93) (blk_lt F615.out)).trans F615.out
          have F651' := (heap_alloc_old (.cells #[.int .u64 0, .int .u64 0] 93) (blk_lt F616.out)).trans F616.out
          have F652' := heap_alloc_new w612 (.cells #[.int .u64 0, .int .u64 0] 93)
          have HB653' := HB617.out.alloc HB617.out.size (.cells #[.int .u64 0, .int .u64 0] 93)
          obtain ⟨V646, hV646⟩ : ∃ V, V = w612.alloc (.cells #[.int .u64 0, .int .u64 0] 93) := ⟨_, rfl⟩
          have Gp647 := Aside0.mk (show w.heap.size ≤ w612.heap.size from HB617.out.size)
          have Lp647_a := Aside0.mk (blk_lt F613.out)
          have Lp647_b := Aside0.mk (blk_lt F614.out)
          have Lp647_c := Aside0.mk (blk_lt F615.out)
          have Lp647_p4 := Aside0.mk (blk_lt F616.out)
          obtain ⟨p647, hp647⟩ : ∃ p, p = w612.heap.size := ⟨_, rfl⟩
          rw [← hp647, ← hV646]
          rw [← hp647, ← hV646] at F652'
          rw [← hp647] at Gp647 Lp647_a Lp647_b Lp647_c Lp647_p4
          rw [← hV646] at F648'
          have F648 := Aside0.mk F648'
          rw [← hV646] at F649'
          have F649 := Aside0.mk F649'
          rw [← hV646] at F650'
          have F650 := Aside0.mk F650'
          rw [← hV646] at F651'
          have F651 := Aside0.mk F651'
          have F652 := Aside0.mk F652'
          rw [← hV646] at HB653'
          have HB653 := Aside0.mk HB653'
          clear hV646 hp647 F648' F649' F650' F651' F652' HB653'
          refine hK.out _ _ (KA.out _ F648.out F649.out) (fun hHeld2 => ?_)
          clear hK K hHeld
          have hHeld := hHeld2
          clear hHeld2
          (try simp only [Act.put, g4, g5, g6])
          refine wpAnyH_ready (rs := [3]) (by kernel_rfl) (by simp) ?_
          refine AllReadyH.cons (o := ?ob100) ?hb100 (fun K hK => ?sb100) ?mb100
          case hb100 => simp only [g1, g2, g3]; rfl
          case sb100 =>
            go_simp
            refine (words_calls h2 l2 _).mono ?_
            rintro e w654 ⟨rfl, hb⟩
            have F655 := Aside0.mk ((hb.block _ (blk_lt F648.out)).trans F648.out)
            have F656 := Aside0.mk ((hb.block _ (blk_lt F649.out)).trans F649.out)
            have F657 := Aside0.mk ((hb.block _ (blk_lt F650.out)).trans F650.out)
            have F658 := Aside0.mk ((hb.block _ (blk_lt F651.out)).trans F651.out)
            have F659 := Aside0.mk ((hb.block _ (blk_lt F652.out)).trans F652.out)
            have HB660 := Aside0.mk (below_then HB653.out HB653.out.size hb)
            clear hb
            refine hK.out _ _ (KA.out _ F655.out F656.out) (fun hHeld2 => ?_)
            clear hK K hHeld
            have hHeld := hHeld2
            clear hHeld2
            (try simp only [Act.put, g4, g5, g6])
            refine wpAnyH_ready (rs := [6]) (by kernel_rfl) (by simp) ?_
            refine AllReadyH.cons (o := ?ob101) ?hb101 (fun K hK => ?sb101) ?mb101
            case hb101 => simp only [g1, g2, g3]; rfl
            case sb101 =>
              have fz0 := blk_frozen F658.out 0
              have fz1 := blk_frozen F658.out 1
              have y0 := (blk_cell F658.out 0).trans rfl
              have y1 := (blk_cell F658.out 1).trans rfl
              go_simp
              clear fz0 fz1 y0 y1
              have F662' := blk_far (blk_far F655.out (p := ⟨p606, 0, none⟩) (by have := Lp606_a.out; show _ ≠ p606; omega) (.int .u64 l)) (p := ⟨p606, 1, none⟩) (by have := Lp606_a.out; show _ ≠ p606; omega) (.int .u64 h)
              have F663' := blk_far (blk_far F656.out (p := ⟨p606, 0, none⟩) (by have := Lp606_b.out; show _ ≠ p606; omega) (.int .u64 l)) (p := ⟨p606, 1, none⟩) (by have := Lp606_b.out; show _ ≠ p606; omega) (.int .u64 h)
              have F664' := blk_far (blk_far F657.out (p := ⟨p606, 0, none⟩) (by have := Lp606_c.out; show _ ≠ p606; omega) (.int .u64 l)) (p := ⟨p606, 1, none⟩) (by have := Lp606_c.out; show _ ≠ p606; omega) (.int .u64 h)
              have F665' : ((w654.setCell ⟨p606, 0, none⟩ (.int .u64 l)).setCell ⟨p606, 1, none⟩ (.int .u64 h)).heap[p606]? = some (.cells #[.int .u64 l, .int .u64 h] 93 (0, 0)) := by have P := blk_set (blk_set F658.out 0 (.int .u64 l)) 1 (.int .u64 h); simpa using P
              have F666' := blk_far (blk_far F659.out (p := ⟨p606, 0, none⟩) (by show p647 ≠ p606; have := Lp647_p4.out; omega) (.int .u64 l)) (p := ⟨p606, 1, none⟩) (by show p647 ≠ p606; have := Lp647_p4.out; omega) (.int .u64 h)
              have HB667' := bset (bset HB660.out Gp606.out 0 (.int .u64 l)) Gp606.out 1 (.int .u64 h)
              obtain ⟨V661, hV661⟩ : ∃ V, V = ((w654.setCell ⟨p606, 0, none⟩ (.int .u64 l)).setCell ⟨p606, 1, none⟩ (.int .u64 h)) := ⟨_, rfl⟩
              rw [← hV661]
              rw [← hV661] at F662'
              have F662 := Aside0.mk F662'
              clear F662'
              rw [← hV661] at F663'
              have F663 := Aside0.mk F663'
              clear F663'
              rw [← hV661] at F664'
              have F664 := Aside0.mk F664'
              clear F664'
              rw [← hV661] at F665'
              have F665 := Aside0.mk F665'
              clear F665'
              rw [← hV661] at F666'
              have F666 := Aside0.mk F666'
              clear F666'
              rw [← hV661] at HB667'
              have HB667 := Aside0.mk HB667'
              clear HB667'
              clear hV661
              refine hK.out _ _ (KA.out _ F662.out F663.out) (fun hHeld2 => ?_)
              clear hK K hHeld
              have hHeld := hHeld2
              clear hHeld2
              (try simp only [Act.put, g4, g5, g6])
              refine wpAnyH_ready (rs := [7]) (by kernel_rfl) (by simp) ?_
              refine AllReadyH.cons (o := ?ob102) ?hb102 (fun K hK => ?sb102) ?mb102
              case hb102 => simp only [g1, g2, g3]; rfl
              case sb102 =>
                have fz0 := blk_frozen F666.out 0
                have fz1 := blk_frozen F666.out 1
                have y0 := (blk_cell F666.out 0).trans rfl
                have y1 := (blk_cell F666.out 1).trans rfl
                go_simp
                clear fz0 fz1 y0 y1
                have F669' := blk_far (blk_far F662.out (p := ⟨p647, 0, none⟩) (by have := Lp647_a.out; show _ ≠ p647; omega) (.int .u64 l2)) (p := ⟨p647, 1, none⟩) (by have := Lp647_a.out; show _ ≠ p647; omega) (.int .u64 h2)
                have F670' := blk_far (blk_far F663.out (p := ⟨p647, 0, none⟩) (by have := Lp647_b.out; show _ ≠ p647; omega) (.int .u64 l2)) (p := ⟨p647, 1, none⟩) (by have := Lp647_b.out; show _ ≠ p647; omega) (.int .u64 h2)
                have F671' := blk_far (blk_far F664.out (p := ⟨p647, 0, none⟩) (by have := Lp647_c.out; show _ ≠ p647; omega) (.int .u64 l2)) (p := ⟨p647, 1, none⟩) (by have := Lp647_c.out; show _ ≠ p647; omega) (.int .u64 h2)
                have F672' := blk_far (blk_far F665.out (p := ⟨p647, 0, none⟩) (by show p606 ≠ p647; have := Lp647_p4.out; omega) (.int .u64 l2)) (p := ⟨p647, 1, none⟩) (by show p606 ≠ p647; have := Lp647_p4.out; omega) (.int .u64 h2)
                have F673' : ((V661.setCell ⟨p647, 0, none⟩ (.int .u64 l2)).setCell ⟨p647, 1, none⟩ (.int .u64 h2)).heap[p647]? = some (.cells #[.int .u64 l2, .int .u64 h2] 93 (0, 0)) := by have P := blk_set (blk_set F666.out 0 (.int .u64 l2)) 1 (.int .u64 h2); simpa using P
                have HB674' := bset (bset HB667.out Gp647.out 0 (.int .u64 l2)) Gp647.out 1 (.int .u64 h2)
                obtain ⟨V668, hV668⟩ : ∃ V, V = ((V661.setCell ⟨p647, 0, none⟩ (.int .u64 l2)).setCell ⟨p647, 1, none⟩ (.int .u64 h2)) := ⟨_, rfl⟩
                rw [← hV668]
                rw [← hV668] at F669'
                have F669 := Aside0.mk F669'
                clear F669'
                rw [← hV668] at F670'
                have F670 := Aside0.mk F670'
                clear F670'
                rw [← hV668] at F671'
                have F671 := Aside0.mk F671'
                clear F671'
                rw [← hV668] at F672'
                have F672 := Aside0.mk F672'
                clear F672'
                rw [← hV668] at F673'
                have F673 := Aside0.mk F673'
                clear F673'
                rw [← hV668] at HB674'
                have HB674 := Aside0.mk HB674'
                clear HB674'
                clear hV668
                refine hK.out _ _ (KA.out _ F669.out F670.out) (fun hHeld2 => ?_)
                clear hK K hHeld
                have hHeld := hHeld2
                clear hHeld2
                (try simp only [Act.put, g4, g5, g6])
                refine wpAnyH_done (by kernel_rfl) ?_ _
                go_wp2
                go_meet
                case rel => exact ⟨p606, p647, rfl, rfl, (by have := Lp647_p4.out; omega), (by have := Lp606_c.out; omega), (by have := Lp647_c.out; omega), F671.out, F672.out, F673.out, HB674.out⟩
              exact AllReadyH.nil
            exact AllReadyH.nil
          exact AllReadyH.nil
        exact AllReadyH.nil
      refine AllReadyH.cons (o := ?ob103) ?hb103 (fun K hK => ?sb103) ?mb103
      case hb103 => simp only [g1, g2, g3]; rfl
      case sb103 =>
        go_simp
        have F677' := (heap_alloc_old (.cells #[.int .u64 0, .int .u64 0] 93) (blk_lt F607.out)).trans F607.out
        have F678' := (heap_alloc_old (.cells #[.int .u64 0, .int .u64 0] 93) (blk_lt F608.out)).trans F608.out
        have F679' := (heap_alloc_old (.cells #[.int .u64 0, .int .u64 0] 93) (blk_lt F609.out)).trans F609.out
        have F680' := (heap_alloc_old (.cells #[.int .u64 0, .int .u64 0] 93) (blk_lt F610.out)).trans F610.out
        have F681' := heap_alloc_new V605 (.cells #[.int .u64 0, .int .u64 0] 93)
        have HB682' := HB611.out.alloc HB611.out.size (.cells #[.int .u64 0, .int .u64 0] 93)
        obtain ⟨V675, hV675⟩ : ∃ V, V = V605.alloc (.cells #[.int .u64 0, .int .u64 0] 93) := ⟨_, rfl⟩
        have Gp676 := Aside0.mk (show w.heap.size ≤ V605.heap.size from HB611.out.size)
        have Lp676_a := Aside0.mk (blk_lt F607.out)
        have Lp676_b := Aside0.mk (blk_lt F608.out)
        have Lp676_c := Aside0.mk (blk_lt F609.out)
        have Lp676_p4 := Aside0.mk (blk_lt F610.out)
        obtain ⟨p676, hp676⟩ : ∃ p, p = V605.heap.size := ⟨_, rfl⟩
        rw [← hp676, ← hV675]
        rw [← hp676, ← hV675] at F681'
        rw [← hp676] at Gp676 Lp676_a Lp676_b Lp676_c Lp676_p4
        rw [← hV675] at F677'
        have F677 := Aside0.mk F677'
        rw [← hV675] at F678'
        have F678 := Aside0.mk F678'
        rw [← hV675] at F679'
        have F679 := Aside0.mk F679'
        rw [← hV675] at F680'
        have F680 := Aside0.mk F680'
        have F681 := Aside0.mk F681'
        rw [← hV675] at HB682'
        have HB682 := Aside0.mk HB682'
        clear hV675 hp676 F677' F678' F679' F680' F681' HB682'
        refine hK.out _ _ (KA.out _ F677.out F678.out) (fun hHeld2 => ?_)
        clear hK K hHeld
        have hHeld := hHeld2
        clear hHeld2
        (try simp only [Act.put, g4, g5, g6])
        refine wpAnyH_ready (rs := [1]) (by kernel_rfl) (by simp) ?_
        refine AllReadyH.cons (o := ?ob104) ?hb104 (fun K hK => ?sb104) ?mb104
        case hb104 => simp only [g1, g2, g3]; rfl
        case sb104 =>
          go_simp
          refine (words_calls h l _).mono ?_
          rintro e w683 ⟨rfl, hb⟩
          have F684 := Aside0.mk ((hb.block _ (blk_lt F677.out)).trans F677.out)
          have F685 := Aside0.mk ((hb.block _ (blk_lt F678.out)).trans F678.out)
          have F686 := Aside0.mk ((hb.block _ (blk_lt F679.out)).trans F679.out)
          have F687 := Aside0.mk ((hb.block _ (blk_lt F680.out)).trans F680.out)
          have F688 := Aside0.mk ((hb.block _ (blk_lt F681.out)).trans F681.out)
          have HB689 := Aside0.mk (below_then HB682.out HB682.out.size hb)
          clear hb
          refine hK.out _ _ (KA.out _ F684.out F685.out) (fun hHeld2 => ?_)
          clear hK K hHeld
          have hHeld := hHeld2
          clear hHeld2
          (try simp only [Act.put, g4, g5, g6])
          refine wpAnyH_ready (rs := [3]) (by kernel_rfl) (by simp) ?_
          refine AllReadyH.cons (o := ?ob105) ?hb105 (fun K hK => ?sb105) ?mb105
          case hb105 => simp only [g1, g2, g3]; rfl
          case sb105 =>
            go_simp
            refine (words_calls h2 l2 _).mono ?_
            rintro e w690 ⟨rfl, hb⟩
            have F691 := Aside0.mk ((hb.block _ (blk_lt F684.out)).trans F684.out)
            have F692 := Aside0.mk ((hb.block _ (blk_lt F685.out)).trans F685.out)
            have F693 := Aside0.mk ((hb.block _ (blk_lt F686.out)).trans F686.out)
            have F694 := Aside0.mk ((hb.block _ (blk_lt F687.out)).trans F687.out)
            have F695 := Aside0.mk ((hb.block _ (blk_lt F688.out)).trans F688.out)
            have HB696 := Aside0.mk (below_then HB689.out HB689.out.size hb)
            clear hb
            refine hK.out _ _ (KA.out _ F691.out F692.out) (fun hHeld2 => ?_)
            clear hK K hHeld
            have hHeld := hHeld2
            clear hHeld2
            (try simp only [Act.put, g4, g5, g6])
            refine wpAnyH_ready (rs := [6]) (by kernel_rfl) (by simp) ?_
            refine AllReadyH.cons (o := ?ob106) ?hb106 (fun K hK => ?sb106) ?mb106
            case hb106 => simp only [g1, g2, g3]; rfl
            case sb106 =>
              have fz0 := blk_frozen F694.out 0
              have fz1 := blk_frozen F694.out 1
              have y0 := (blk_cell F694.out 0).trans rfl
              have y1 := (blk_cell F694.out 1).trans rfl
              go_simp
              clear fz0 fz1 y0 y1
              have F698' := blk_far (blk_far F691.out (p := ⟨p606, 0, none⟩) (by have := Lp606_a.out; show _ ≠ p606; omega) (.int .u64 l)) (p := ⟨p606, 1, none⟩) (by have := Lp606_a.out; show _ ≠ p606; omega) (.int .u64 h)
              have F699' := blk_far (blk_far F692.out (p := ⟨p606, 0, none⟩) (by have := Lp606_b.out; show _ ≠ p606; omega) (.int .u64 l)) (p := ⟨p606, 1, none⟩) (by have := Lp606_b.out; show _ ≠ p606; omega) (.int .u64 h)
              have F700' := blk_far (blk_far F693.out (p := ⟨p606, 0, none⟩) (by have := Lp606_c.out; show _ ≠ p606; omega) (.int .u64 l)) (p := ⟨p606, 1, none⟩) (by have := Lp606_c.out; show _ ≠ p606; omega) (.int .u64 h)
              have F701' : ((w690.setCell ⟨p606, 0, none⟩ (.int .u64 l)).setCell ⟨p606, 1, none⟩ (.int .u64 h)).heap[p606]? = some (.cells #[.int .u64 l, .int .u64 h] 93 (0, 0)) := by have P := blk_set (blk_set F694.out 0 (.int .u64 l)) 1 (.int .u64 h); simpa using P
              have F702' := blk_far (blk_far F695.out (p := ⟨p606, 0, none⟩) (by show p676 ≠ p606; have := Lp676_p4.out; omega) (.int .u64 l)) (p := ⟨p606, 1, none⟩) (by show p676 ≠ p606; have := Lp676_p4.out; omega) (.int .u64 h)
              have HB703' := bset (bset HB696.out Gp606.out 0 (.int .u64 l)) Gp606.out 1 (.int .u64 h)
              obtain ⟨V697, hV697⟩ : ∃ V, V = ((w690.setCell ⟨p606, 0, none⟩ (.int .u64 l)).setCell ⟨p606, 1, none⟩ (.int .u64 h)) := ⟨_, rfl⟩
              rw [← hV697]
              rw [← hV697] at F698'
              have F698 := Aside0.mk F698'
              clear F698'
              rw [← hV697] at F699'
              have F699 := Aside0.mk F699'
              clear F699'
              rw [← hV697] at F700'
              have F700 := Aside0.mk F700'
              clear F700'
              rw [← hV697] at F701'
              have F701 := Aside0.mk F701'
              clear F701'
              rw [← hV697] at F702'
              have F702 := Aside0.mk F702'
              clear F702'
              rw [← hV697] at HB703'
              have HB703 := Aside0.mk HB703'
              clear HB703'
              clear hV697
              refine hK.out _ _ (KA.out _ F698.out F699.out) (fun hHeld2 => ?_)
              clear hK K hHeld
              have hHeld := hHeld2
              clear hHeld2
              (try simp only [Act.put, g4, g5, g6])
              refine wpAnyH_ready (rs := [7]) (by kernel_rfl) (by simp) ?_
              refine AllReadyH.cons (o := ?ob107) ?hb107 (fun K hK => ?sb107) ?mb107
              case hb107 => simp only [g1, g2, g3]; rfl
              case sb107 =>
                have fz0 := blk_frozen F702.out 0
                have fz1 := blk_frozen F702.out 1
                have y0 := (blk_cell F702.out 0).trans rfl
                have y1 := (blk_cell F702.out 1).trans rfl
                go_simp
                clear fz0 fz1 y0 y1
                have F705' := blk_far (blk_far F698.out (p := ⟨p676, 0, none⟩) (by have := Lp676_a.out; show _ ≠ p676; omega) (.int .u64 l2)) (p := ⟨p676, 1, none⟩) (by have := Lp676_a.out; show _ ≠ p676; omega) (.int .u64 h2)
                have F706' := blk_far (blk_far F699.out (p := ⟨p676, 0, none⟩) (by have := Lp676_b.out; show _ ≠ p676; omega) (.int .u64 l2)) (p := ⟨p676, 1, none⟩) (by have := Lp676_b.out; show _ ≠ p676; omega) (.int .u64 h2)
                have F707' := blk_far (blk_far F700.out (p := ⟨p676, 0, none⟩) (by have := Lp676_c.out; show _ ≠ p676; omega) (.int .u64 l2)) (p := ⟨p676, 1, none⟩) (by have := Lp676_c.out; show _ ≠ p676; omega) (.int .u64 h2)
                have F708' := blk_far (blk_far F701.out (p := ⟨p676, 0, none⟩) (by show p606 ≠ p676; have := Lp676_p4.out; omega) (.int .u64 l2)) (p := ⟨p676, 1, none⟩) (by show p606 ≠ p676; have := Lp676_p4.out; omega) (.int .u64 h2)
                have F709' : ((V697.setCell ⟨p676, 0, none⟩ (.int .u64 l2)).setCell ⟨p676, 1, none⟩ (.int .u64 h2)).heap[p676]? = some (.cells #[.int .u64 l2, .int .u64 h2] 93 (0, 0)) := by have P := blk_set (blk_set F702.out 0 (.int .u64 l2)) 1 (.int .u64 h2); simpa using P
                have HB710' := bset (bset HB703.out Gp676.out 0 (.int .u64 l2)) Gp676.out 1 (.int .u64 h2)
                obtain ⟨V704, hV704⟩ : ∃ V, V = ((V697.setCell ⟨p676, 0, none⟩ (.int .u64 l2)).setCell ⟨p676, 1, none⟩ (.int .u64 h2)) := ⟨_, rfl⟩
                rw [← hV704]
                rw [← hV704] at F705'
                have F705 := Aside0.mk F705'
                clear F705'
                rw [← hV704] at F706'
                have F706 := Aside0.mk F706'
                clear F706'
                rw [← hV704] at F707'
                have F707 := Aside0.mk F707'
                clear F707'
                rw [← hV704] at F708'
                have F708 := Aside0.mk F708'
                clear F708'
                rw [← hV704] at F709'
                have F709 := Aside0.mk F709'
                clear F709'
                rw [← hV704] at HB710'
                have HB710 := Aside0.mk HB710'
                clear HB710'
                clear hV704
                refine hK.out _ _ (KA.out _ F705.out F706.out) (fun hHeld2 => ?_)
                clear hK K hHeld
                have hHeld := hHeld2
                clear hHeld2
                (try simp only [Act.put, g4, g5, g6])
                refine wpAnyH_done (by kernel_rfl) ?_ _
                go_wp2
                go_meet
                case rel => exact ⟨p606, p676, rfl, rfl, (by have := Lp676_p4.out; omega), (by have := Lp606_c.out; omega), (by have := Lp676_c.out; omega), F707.out, F708.out, F709.out, HB710.out⟩
              exact AllReadyH.nil
            exact AllReadyH.nil
          exact AllReadyH.nil
        exact AllReadyH.nil
      exact AllReadyH.nil
    refine AllReadyH.cons (o := ?ob108) ?hb108 (fun K hK => ?sb108) ?mb108
    case hb108 => simp only [g1, g2, g3]; rfl
    case sb108 =>
      go_simp
      have F713' := (heap_alloc_old (.cells #[.int .u64 0, .int .u64 0] 93) (blk_lt F01.out)).trans F01.out
      have F714' := (heap_alloc_old (.cells #[.int .u64 0, .int .u64 0] 93) (blk_lt F02.out)).trans F02.out
      have F715' := (heap_alloc_old (.cells #[.int .u64 0, .int .u64 0] 93) (blk_lt F03.out)).trans F03.out
      have F716' := heap_alloc_new Wd (.cells #[.int .u64 0, .int .u64 0] 93)
      have HB717' := HB0d.out.alloc HB0d.out.size (.cells #[.int .u64 0, .int .u64 0] 93)
      obtain ⟨V711, hV711⟩ : ∃ V, V = Wd.alloc (.cells #[.int .u64 0, .int .u64 0] 93) := ⟨_, rfl⟩
      have Gp712 := Aside0.mk (show w.heap.size ≤ Wd.heap.size from HB0d.out.size)
      have Lp712_a := Aside0.mk (blk_lt F01.out)
      have Lp712_b := Aside0.mk (blk_lt F02.out)
      have Lp712_c := Aside0.mk (blk_lt F03.out)
      obtain ⟨p712, hp712⟩ : ∃ p, p = Wd.heap.size := ⟨_, rfl⟩
      rw [← hp712, ← hV711]
      rw [← hp712, ← hV711] at F716'
      rw [← hp712] at Gp712 Lp712_a Lp712_b Lp712_c
      rw [← hV711] at F713'
      have F713 := Aside0.mk F713'
      rw [← hV711] at F714'
      have F714 := Aside0.mk F714'
      rw [← hV711] at F715'
      have F715 := Aside0.mk F715'
      have F716 := Aside0.mk F716'
      rw [← hV711] at HB717'
      have HB717 := Aside0.mk HB717'
      clear hV711 hp712 F713' F714' F715' F716' HB717'
      refine hK.out _ _ (KA.out _ F713.out F714.out) (fun hHeld2 => ?_)
      clear hK K hHeld
      have hHeld := hHeld2
      clear hHeld2
      (try simp only [Act.put, g4, g5, g6])
      refine wpAnyH_ready (rs := [1, 4]) (by kernel_rfl) (by simp) ?_
      refine AllReadyH.cons (o := ?ob109) ?hb109 (fun K hK => ?sb109) ?mb109
      case hb109 => simp only [g1, g2, g3]; rfl
      case sb109 =>
        go_simp
        refine (words_calls h l _).mono ?_
        rintro e w718 ⟨rfl, hb⟩
        have F719 := Aside0.mk ((hb.block _ (blk_lt F713.out)).trans F713.out)
        have F720 := Aside0.mk ((hb.block _ (blk_lt F714.out)).trans F714.out)
        have F721 := Aside0.mk ((hb.block _ (blk_lt F715.out)).trans F715.out)
        have F722 := Aside0.mk ((hb.block _ (blk_lt F716.out)).trans F716.out)
        have HB723 := Aside0.mk (below_then HB717.out HB717.out.size hb)
        clear hb
        refine hK.out _ _ (KA.out _ F719.out F720.out) (fun hHeld2 => ?_)
        clear hK K hHeld
        have hHeld := hHeld2
        clear hHeld2
        (try simp only [Act.put, g4, g5, g6])
        refine wpAnyH_ready (rs := [3, 4]) (by kernel_rfl) (by simp) ?_
        refine AllReadyH.cons (o := ?ob110) ?hb110 (fun K hK => ?sb110) ?mb110
        case hb110 => simp only [g1, g2, g3]; rfl
        case sb110 =>
          go_simp
          refine (words_calls h2 l2 _).mono ?_
          rintro e w724 ⟨rfl, hb⟩
          have F725 := Aside0.mk ((hb.block _ (blk_lt F719.out)).trans F719.out)
          have F726 := Aside0.mk ((hb.block _ (blk_lt F720.out)).trans F720.out)
          have F727 := Aside0.mk ((hb.block _ (blk_lt F721.out)).trans F721.out)
          have F728 := Aside0.mk ((hb.block _ (blk_lt F722.out)).trans F722.out)
          have HB729 := Aside0.mk (below_then HB723.out HB723.out.size hb)
          clear hb
          refine hK.out _ _ (KA.out _ F725.out F726.out) (fun hHeld2 => ?_)
          clear hK K hHeld
          have hHeld := hHeld2
          clear hHeld2
          (try simp only [Act.put, g4, g5, g6])
          refine wpAnyH_ready (rs := [4]) (by kernel_rfl) (by simp) ?_
          refine AllReadyH.cons (o := ?ob111) ?hb111 (fun K hK => ?sb111) ?mb111
          case hb111 => simp only [g1, g2, g3]; rfl
          case sb111 =>
            go_simp
            have F732' := (heap_alloc_old (.cells #[.int .u64 0, .int .u64 0] 93) (blk_lt F725.out)).trans F725.out
            have F733' := (heap_alloc_old (.cells #[.int .u64 0, .int .u64 0] 93) (blk_lt F726.out)).trans F726.out
            have F734' := (heap_alloc_old (.cells #[.int .u64 0, .int .u64 0] 93) (blk_lt F727.out)).trans F727.out
            have F735' := (heap_alloc_old (.cells #[.int .u64 0, .int .u64 0] 93) (blk_lt F728.out)).trans F728.out
            have F736' := heap_alloc_new w724 (.cells #[.int .u64 0, .int .u64 0] 93)
            have HB737' := HB729.out.alloc HB729.out.size (.cells #[.int .u64 0, .int .u64 0] 93)
            obtain ⟨V730, hV730⟩ : ∃ V, V = w724.alloc (.cells #[.int .u64 0, .int .u64 0] 93) := ⟨_, rfl⟩
            have Gp731 := Aside0.mk (show w.heap.size ≤ w724.heap.size from HB729.out.size)
            have Lp731_a := Aside0.mk (blk_lt F725.out)
            have Lp731_b := Aside0.mk (blk_lt F726.out)
            have Lp731_c := Aside0.mk (blk_lt F727.out)
            have Lp731_p5 := Aside0.mk (blk_lt F728.out)
            obtain ⟨p731, hp731⟩ : ∃ p, p = w724.heap.size := ⟨_, rfl⟩
            rw [← hp731, ← hV730]
            rw [← hp731, ← hV730] at F736'
            rw [← hp731] at Gp731 Lp731_a Lp731_b Lp731_c Lp731_p5
            rw [← hV730] at F732'
            have F732 := Aside0.mk F732'
            rw [← hV730] at F733'
            have F733 := Aside0.mk F733'
            rw [← hV730] at F734'
            have F734 := Aside0.mk F734'
            rw [← hV730] at F735'
            have F735 := Aside0.mk F735'
            have F736 := Aside0.mk F736'
            rw [← hV730] at HB737'
            have HB737 := Aside0.mk HB737'
            clear hV730 hp731 F732' F733' F734' F735' F736' HB737'
            refine hK.out _ _ (KA.out _ F732.out F733.out) (fun hHeld2 => ?_)
            clear hK K hHeld
            have hHeld := hHeld2
            clear hHeld2
            (try simp only [Act.put, g4, g5, g6])
            refine wpAnyH_ready (rs := [6]) (by kernel_rfl) (by simp) ?_
            refine AllReadyH.cons (o := ?ob112) ?hb112 (fun K hK => ?sb112) ?mb112
            case hb112 => simp only [g1, g2, g3]; rfl
            case sb112 =>
              have fz0 := blk_frozen F736.out 0
              have fz1 := blk_frozen F736.out 1
              have y0 := (blk_cell F736.out 0).trans rfl
              have y1 := (blk_cell F736.out 1).trans rfl
              go_simp
              clear fz0 fz1 y0 y1
              have F739' := blk_far (blk_far F732.out (p := ⟨p731, 0, none⟩) (by have := Lp731_a.out; show _ ≠ p731; omega) (.int .u64 l)) (p := ⟨p731, 1, none⟩) (by have := Lp731_a.out; show _ ≠ p731; omega) (.int .u64 h)
              have F740' := blk_far (blk_far F733.out (p := ⟨p731, 0, none⟩) (by have := Lp731_b.out; show _ ≠ p731; omega) (.int .u64 l)) (p := ⟨p731, 1, none⟩) (by have := Lp731_b.out; show _ ≠ p731; omega) (.int .u64 h)
              have F741' := blk_far (blk_far F734.out (p := ⟨p731, 0, none⟩) (by have := Lp731_c.out; show _ ≠ p731; omega) (.int .u64 l)) (p := ⟨p731, 1, none⟩) (by have := Lp731_c.out; show _ ≠ p731; omega) (.int .u64 h)
              have F742' := blk_far (blk_far F735.out (p := ⟨p731, 0, none⟩) (by show p712 ≠ p731; have := Lp731_p5.out; omega) (.int .u64 l)) (p := ⟨p731, 1, none⟩) (by show p712 ≠ p731; have := Lp731_p5.out; omega) (.int .u64 h)
              have F743' : ((V730.setCell ⟨p731, 0, none⟩ (.int .u64 l)).setCell ⟨p731, 1, none⟩ (.int .u64 h)).heap[p731]? = some (.cells #[.int .u64 l, .int .u64 h] 93 (0, 0)) := by have P := blk_set (blk_set F736.out 0 (.int .u64 l)) 1 (.int .u64 h); simpa using P
              have HB744' := bset (bset HB737.out Gp731.out 0 (.int .u64 l)) Gp731.out 1 (.int .u64 h)
              obtain ⟨V738, hV738⟩ : ∃ V, V = ((V730.setCell ⟨p731, 0, none⟩ (.int .u64 l)).setCell ⟨p731, 1, none⟩ (.int .u64 h)) := ⟨_, rfl⟩
              rw [← hV738]
              rw [← hV738] at F739'
              have F739 := Aside0.mk F739'
              clear F739'
              rw [← hV738] at F740'
              have F740 := Aside0.mk F740'
              clear F740'
              rw [← hV738] at F741'
              have F741 := Aside0.mk F741'
              clear F741'
              rw [← hV738] at F742'
              have F742 := Aside0.mk F742'
              clear F742'
              rw [← hV738] at F743'
              have F743 := Aside0.mk F743'
              clear F743'
              rw [← hV738] at HB744'
              have HB744 := Aside0.mk HB744'
              clear HB744'
              clear hV738
              refine hK.out _ _ (KA.out _ F739.out F740.out) (fun hHeld2 => ?_)
              clear hK K hHeld
              have hHeld := hHeld2
              clear hHeld2
              (try simp only [Act.put, g4, g5, g6])
              refine wpAnyH_ready (rs := [7]) (by kernel_rfl) (by simp) ?_
              refine AllReadyH.cons (o := ?ob113) ?hb113 (fun K hK => ?sb113) ?mb113
              case hb113 => simp only [g1, g2, g3]; rfl
              case sb113 =>
                have fz0 := blk_frozen F742.out 0
                have fz1 := blk_frozen F742.out 1
                have y0 := (blk_cell F742.out 0).trans rfl
                have y1 := (blk_cell F742.out 1).trans rfl
                go_simp
                clear fz0 fz1 y0 y1
                have F746' := blk_far (blk_far F739.out (p := ⟨p712, 0, none⟩) (by have := Lp712_a.out; show _ ≠ p712; omega) (.int .u64 l2)) (p := ⟨p712, 1, none⟩) (by have := Lp712_a.out; show _ ≠ p712; omega) (.int .u64 h2)
                have F747' := blk_far (blk_far F740.out (p := ⟨p712, 0, none⟩) (by have := Lp712_b.out; show _ ≠ p712; omega) (.int .u64 l2)) (p := ⟨p712, 1, none⟩) (by have := Lp712_b.out; show _ ≠ p712; omega) (.int .u64 h2)
                have F748' := blk_far (blk_far F741.out (p := ⟨p712, 0, none⟩) (by have := Lp712_c.out; show _ ≠ p712; omega) (.int .u64 l2)) (p := ⟨p712, 1, none⟩) (by have := Lp712_c.out; show _ ≠ p712; omega) (.int .u64 h2)
                have F749' : ((V738.setCell ⟨p712, 0, none⟩ (.int .u64 l2)).setCell ⟨p712, 1, none⟩ (.int .u64 h2)).heap[p712]? = some (.cells #[.int .u64 l2, .int .u64 h2] 93 (0, 0)) := by have P := blk_set (blk_set F742.out 0 (.int .u64 l2)) 1 (.int .u64 h2); simpa using P
                have F750' := blk_far (blk_far F743.out (p := ⟨p712, 0, none⟩) (by show p731 ≠ p712; have := Lp731_p5.out; omega) (.int .u64 l2)) (p := ⟨p712, 1, none⟩) (by show p731 ≠ p712; have := Lp731_p5.out; omega) (.int .u64 h2)
                have HB751' := bset (bset HB744.out Gp712.out 0 (.int .u64 l2)) Gp712.out 1 (.int .u64 h2)
                obtain ⟨V745, hV745⟩ : ∃ V, V = ((V738.setCell ⟨p712, 0, none⟩ (.int .u64 l2)).setCell ⟨p712, 1, none⟩ (.int .u64 h2)) := ⟨_, rfl⟩
                rw [← hV745]
                rw [← hV745] at F746'
                have F746 := Aside0.mk F746'
                clear F746'
                rw [← hV745] at F747'
                have F747 := Aside0.mk F747'
                clear F747'
                rw [← hV745] at F748'
                have F748 := Aside0.mk F748'
                clear F748'
                rw [← hV745] at F749'
                have F749 := Aside0.mk F749'
                clear F749'
                rw [← hV745] at F750'
                have F750 := Aside0.mk F750'
                clear F750'
                rw [← hV745] at HB751'
                have HB751 := Aside0.mk HB751'
                clear HB751'
                clear hV745
                refine hK.out _ _ (KA.out _ F746.out F747.out) (fun hHeld2 => ?_)
                clear hK K hHeld
                have hHeld := hHeld2
                clear hHeld2
                (try simp only [Act.put, g4, g5, g6])
                refine wpAnyH_done (by kernel_rfl) ?_ _
                go_wp2
                go_meet
                case rel => exact ⟨p731, p712, rfl, rfl, (by have := Lp731_p5.out; omega), (by have := Lp731_c.out; omega), (by have := Lp712_c.out; omega), F748.out, F750.out, F749.out, HB751.out⟩
              exact AllReadyH.nil
            exact AllReadyH.nil
          exact AllReadyH.nil
        refine AllReadyH.cons (o := ?ob114) ?hb114 (fun K hK => ?sb114) ?mb114
        case hb114 => simp only [g1, g2, g3]; rfl
        case sb114 =>
          go_simp
          have F754' := (heap_alloc_old (.cells #[.int .u64 0, .int .u64 0] 93) (blk_lt F719.out)).trans F719.out
          have F755' := (heap_alloc_old (.cells #[.int .u64 0, .int .u64 0] 93) (blk_lt F720.out)).trans F720.out
          have F756' := (heap_alloc_old (.cells #[.int .u64 0, .int .u64 0] 93) (blk_lt F721.out)).trans F721.out
          have F757' := (heap_alloc_old (.cells #[.int .u64 0, .int .u64 0] 93) (blk_lt F722.out)).trans F722.out
          have F758' := heap_alloc_new w718 (.cells #[.int .u64 0, .int .u64 0] 93)
          have HB759' := HB723.out.alloc HB723.out.size (.cells #[.int .u64 0, .int .u64 0] 93)
          obtain ⟨V752, hV752⟩ : ∃ V, V = w718.alloc (.cells #[.int .u64 0, .int .u64 0] 93) := ⟨_, rfl⟩
          have Gp753 := Aside0.mk (show w.heap.size ≤ w718.heap.size from HB723.out.size)
          have Lp753_a := Aside0.mk (blk_lt F719.out)
          have Lp753_b := Aside0.mk (blk_lt F720.out)
          have Lp753_c := Aside0.mk (blk_lt F721.out)
          have Lp753_p5 := Aside0.mk (blk_lt F722.out)
          obtain ⟨p753, hp753⟩ : ∃ p, p = w718.heap.size := ⟨_, rfl⟩
          rw [← hp753, ← hV752]
          rw [← hp753, ← hV752] at F758'
          rw [← hp753] at Gp753 Lp753_a Lp753_b Lp753_c Lp753_p5
          rw [← hV752] at F754'
          have F754 := Aside0.mk F754'
          rw [← hV752] at F755'
          have F755 := Aside0.mk F755'
          rw [← hV752] at F756'
          have F756 := Aside0.mk F756'
          rw [← hV752] at F757'
          have F757 := Aside0.mk F757'
          have F758 := Aside0.mk F758'
          rw [← hV752] at HB759'
          have HB759 := Aside0.mk HB759'
          clear hV752 hp753 F754' F755' F756' F757' F758' HB759'
          refine hK.out _ _ (KA.out _ F754.out F755.out) (fun hHeld2 => ?_)
          clear hK K hHeld
          have hHeld := hHeld2
          clear hHeld2
          (try simp only [Act.put, g4, g5, g6])
          refine wpAnyH_ready (rs := [3]) (by kernel_rfl) (by simp) ?_
          refine AllReadyH.cons (o := ?ob115) ?hb115 (fun K hK => ?sb115) ?mb115
          case hb115 => simp only [g1, g2, g3]; rfl
          case sb115 =>
            go_simp
            refine (words_calls h2 l2 _).mono ?_
            rintro e w760 ⟨rfl, hb⟩
            have F761 := Aside0.mk ((hb.block _ (blk_lt F754.out)).trans F754.out)
            have F762 := Aside0.mk ((hb.block _ (blk_lt F755.out)).trans F755.out)
            have F763 := Aside0.mk ((hb.block _ (blk_lt F756.out)).trans F756.out)
            have F764 := Aside0.mk ((hb.block _ (blk_lt F757.out)).trans F757.out)
            have F765 := Aside0.mk ((hb.block _ (blk_lt F758.out)).trans F758.out)
            have HB766 := Aside0.mk (below_then HB759.out HB759.out.size hb)
            clear hb
            refine hK.out _ _ (KA.out _ F761.out F762.out) (fun hHeld2 => ?_)
            clear hK K hHeld
            have hHeld := hHeld2
            clear hHeld2
            (try simp only [Act.put, g4, g5, g6])
            refine wpAnyH_ready (rs := [6]) (by kernel_rfl) (by simp) ?_
            refine AllReadyH.cons (o := ?ob116) ?hb116 (fun K hK => ?sb116) ?mb116
            case hb116 => simp only [g1, g2, g3]; rfl
            case sb116 =>
              have fz0 := blk_frozen F765.out 0
              have fz1 := blk_frozen F765.out 1
              have y0 := (blk_cell F765.out 0).trans rfl
              have y1 := (blk_cell F765.out 1).trans rfl
              go_simp
              clear fz0 fz1 y0 y1
              have F768' := blk_far (blk_far F761.out (p := ⟨p753, 0, none⟩) (by have := Lp753_a.out; show _ ≠ p753; omega) (.int .u64 l)) (p := ⟨p753, 1, none⟩) (by have := Lp753_a.out; show _ ≠ p753; omega) (.int .u64 h)
              have F769' := blk_far (blk_far F762.out (p := ⟨p753, 0, none⟩) (by have := Lp753_b.out; show _ ≠ p753; omega) (.int .u64 l)) (p := ⟨p753, 1, none⟩) (by have := Lp753_b.out; show _ ≠ p753; omega) (.int .u64 h)
              have F770' := blk_far (blk_far F763.out (p := ⟨p753, 0, none⟩) (by have := Lp753_c.out; show _ ≠ p753; omega) (.int .u64 l)) (p := ⟨p753, 1, none⟩) (by have := Lp753_c.out; show _ ≠ p753; omega) (.int .u64 h)
              have F771' := blk_far (blk_far F764.out (p := ⟨p753, 0, none⟩) (by show p712 ≠ p753; have := Lp753_p5.out; omega) (.int .u64 l)) (p := ⟨p753, 1, none⟩) (by show p712 ≠ p753; have := Lp753_p5.out; omega) (.int .u64 h)
              have F772' : ((w760.setCell ⟨p753, 0, none⟩ (.int .u64 l)).setCell ⟨p753, 1, none⟩ (.int .u64 h)).heap[p753]? = some (.cells #[.int .u64 l, .int .u64 h] 93 (0, 0)) := by have P := blk_set (blk_set F765.out 0 (.int .u64 l)) 1 (.int .u64 h); simpa using P
              have HB773' := bset (bset HB766.out Gp753.out 0 (.int .u64 l)) Gp753.out 1 (.int .u64 h)
              obtain ⟨V767, hV767⟩ : ∃ V, V = ((w760.setCell ⟨p753, 0, none⟩ (.int .u64 l)).setCell ⟨p753, 1, none⟩ (.int .u64 h)) := ⟨_, rfl⟩
              rw [← hV767]
              rw [← hV767] at F768'
              have F768 := Aside0.mk F768'
              clear F768'
              rw [← hV767] at F769'
              have F769 := Aside0.mk F769'
              clear F769'
              rw [← hV767] at F770'
              have F770 := Aside0.mk F770'
              clear F770'
              rw [← hV767] at F771'
              have F771 := Aside0.mk F771'
              clear F771'
              rw [← hV767] at F772'
              have F772 := Aside0.mk F772'
              clear F772'
              rw [← hV767] at HB773'
              have HB773 := Aside0.mk HB773'
              clear HB773'
              clear hV767
              refine hK.out _ _ (KA.out _ F768.out F769.out) (fun hHeld2 => ?_)
              clear hK K hHeld
              have hHeld := hHeld2
              clear hHeld2
              (try simp only [Act.put, g4, g5, g6])
              refine wpAnyH_ready (rs := [7]) (by kernel_rfl) (by simp) ?_
              refine AllReadyH.cons (o := ?ob117) ?hb117 (fun K hK => ?sb117) ?mb117
              case hb117 => simp only [g1, g2, g3]; rfl
              case sb117 =>
                have fz0 := blk_frozen F771.out 0
                have fz1 := blk_frozen F771.out 1
                have y0 := (blk_cell F771.out 0).trans rfl
                have y1 := (blk_cell F771.out 1).trans rfl
                go_simp
                clear fz0 fz1 y0 y1
                have F775' := blk_far (blk_far F768.out (p := ⟨p712, 0, none⟩) (by have := Lp712_a.out; show _ ≠ p712; omega) (.int .u64 l2)) (p := ⟨p712, 1, none⟩) (by have := Lp712_a.out; show _ ≠ p712; omega) (.int .u64 h2)
                have F776' := blk_far (blk_far F769.out (p := ⟨p712, 0, none⟩) (by have := Lp712_b.out; show _ ≠ p712; omega) (.int .u64 l2)) (p := ⟨p712, 1, none⟩) (by have := Lp712_b.out; show _ ≠ p712; omega) (.int .u64 h2)
                have F777' := blk_far (blk_far F770.out (p := ⟨p712, 0, none⟩) (by have := Lp712_c.out; show _ ≠ p712; omega) (.int .u64 l2)) (p := ⟨p712, 1, none⟩) (by have := Lp712_c.out; show _ ≠ p712; omega) (.int .u64 h2)
                have F778' : ((V767.setCell ⟨p712, 0, none⟩ (.int .u64 l2)).setCell ⟨p712, 1, none⟩ (.int .u64 h2)).heap[p712]? = some (.cells #[.int .u64 l2, .int .u64 h2] 93 (0, 0)) := by have P := blk_set (blk_set F771.out 0 (.int .u64 l2)) 1 (.int .u64 h2); simpa using P
                have F779' := blk_far (blk_far F772.out (p := ⟨p712, 0, none⟩) (by show p753 ≠ p712; have := Lp753_p5.out; omega) (.int .u64 l2)) (p := ⟨p712, 1, none⟩) (by show p753 ≠ p712; have := Lp753_p5.out; omega) (.int .u64 h2)
                have HB780' := bset (bset HB773.out Gp712.out 0 (.int .u64 l2)) Gp712.out 1 (.int .u64 h2)
                obtain ⟨V774, hV774⟩ : ∃ V, V = ((V767.setCell ⟨p712, 0, none⟩ (.int .u64 l2)).setCell ⟨p712, 1, none⟩ (.int .u64 h2)) := ⟨_, rfl⟩
                rw [← hV774]
                rw [← hV774] at F775'
                have F775 := Aside0.mk F775'
                clear F775'
                rw [← hV774] at F776'
                have F776 := Aside0.mk F776'
                clear F776'
                rw [← hV774] at F777'
                have F777 := Aside0.mk F777'
                clear F777'
                rw [← hV774] at F778'
                have F778 := Aside0.mk F778'
                clear F778'
                rw [← hV774] at F779'
                have F779 := Aside0.mk F779'
                clear F779'
                rw [← hV774] at HB780'
                have HB780 := Aside0.mk HB780'
                clear HB780'
                clear hV774
                refine hK.out _ _ (KA.out _ F775.out F776.out) (fun hHeld2 => ?_)
                clear hK K hHeld
                have hHeld := hHeld2
                clear hHeld2
                (try simp only [Act.put, g4, g5, g6])
                refine wpAnyH_done (by kernel_rfl) ?_ _
                go_wp2
                go_meet
                case rel => exact ⟨p753, p712, rfl, rfl, (by have := Lp753_p5.out; omega), (by have := Lp753_c.out; omega), (by have := Lp712_c.out; omega), F777.out, F779.out, F778.out, HB780.out⟩
              exact AllReadyH.nil
            exact AllReadyH.nil
          exact AllReadyH.nil
        exact AllReadyH.nil
      refine AllReadyH.cons (o := ?ob118) ?hb118 (fun K hK => ?sb118) ?mb118
      case hb118 => simp only [g1, g2, g3]; rfl
      case sb118 =>
        go_simp
        have F783' := (heap_alloc_old (.cells #[.int .u64 0, .int .u64 0] 93) (blk_lt F713.out)).trans F713.out
        have F784' := (heap_alloc_old (.cells #[.int .u64 0, .int .u64 0] 93) (blk_lt F714.out)).trans F714.out
        have F785' := (heap_alloc_old (.cells #[.int .u64 0, .int .u64 0] 93) (blk_lt F715.out)).trans F715.out
        have F786' := (heap_alloc_old (.cells #[.int .u64 0, .int .u64 0] 93) (blk_lt F716.out)).trans F716.out
        have F787' := heap_alloc_new V711 (.cells #[.int .u64 0, .int .u64 0] 93)
        have HB788' := HB717.out.alloc HB717.out.size (.cells #[.int .u64 0, .int .u64 0] 93)
        obtain ⟨V781, hV781⟩ : ∃ V, V = V711.alloc (.cells #[.int .u64 0, .int .u64 0] 93) := ⟨_, rfl⟩
        have Gp782 := Aside0.mk (show w.heap.size ≤ V711.heap.size from HB717.out.size)
        have Lp782_a := Aside0.mk (blk_lt F713.out)
        have Lp782_b := Aside0.mk (blk_lt F714.out)
        have Lp782_c := Aside0.mk (blk_lt F715.out)
        have Lp782_p5 := Aside0.mk (blk_lt F716.out)
        obtain ⟨p782, hp782⟩ : ∃ p, p = V711.heap.size := ⟨_, rfl⟩
        rw [← hp782, ← hV781]
        rw [← hp782, ← hV781] at F787'
        rw [← hp782] at Gp782 Lp782_a Lp782_b Lp782_c Lp782_p5
        rw [← hV781] at F783'
        have F783 := Aside0.mk F783'
        rw [← hV781] at F784'
        have F784 := Aside0.mk F784'
        rw [← hV781] at F785'
        have F785 := Aside0.mk F785'
        rw [← hV781] at F786'
        have F786 := Aside0.mk F786'
        have F787 := Aside0.mk F787'
        rw [← hV781] at HB788'
        have HB788 := Aside0.mk HB788'
        clear hV781 hp782 F783' F784' F785' F786' F787' HB788'
        refine hK.out _ _ (KA.out _ F783.out F784.out) (fun hHeld2 => ?_)
        clear hK K hHeld
        have hHeld := hHeld2
        clear hHeld2
        (try simp only [Act.put, g4, g5, g6])
        refine wpAnyH_ready (rs := [1]) (by kernel_rfl) (by simp) ?_
        refine AllReadyH.cons (o := ?ob119) ?hb119 (fun K hK => ?sb119) ?mb119
        case hb119 => simp only [g1, g2, g3]; rfl
        case sb119 =>
          go_simp
          refine (words_calls h l _).mono ?_
          rintro e w789 ⟨rfl, hb⟩
          have F790 := Aside0.mk ((hb.block _ (blk_lt F783.out)).trans F783.out)
          have F791 := Aside0.mk ((hb.block _ (blk_lt F784.out)).trans F784.out)
          have F792 := Aside0.mk ((hb.block _ (blk_lt F785.out)).trans F785.out)
          have F793 := Aside0.mk ((hb.block _ (blk_lt F786.out)).trans F786.out)
          have F794 := Aside0.mk ((hb.block _ (blk_lt F787.out)).trans F787.out)
          have HB795 := Aside0.mk (below_then HB788.out HB788.out.size hb)
          clear hb
          refine hK.out _ _ (KA.out _ F790.out F791.out) (fun hHeld2 => ?_)
          clear hK K hHeld
          have hHeld := hHeld2
          clear hHeld2
          (try simp only [Act.put, g4, g5, g6])
          refine wpAnyH_ready (rs := [3]) (by kernel_rfl) (by simp) ?_
          refine AllReadyH.cons (o := ?ob120) ?hb120 (fun K hK => ?sb120) ?mb120
          case hb120 => simp only [g1, g2, g3]; rfl
          case sb120 =>
            go_simp
            refine (words_calls h2 l2 _).mono ?_
            rintro e w796 ⟨rfl, hb⟩
            have F797 := Aside0.mk ((hb.block _ (blk_lt F790.out)).trans F790.out)
            have F798 := Aside0.mk ((hb.block _ (blk_lt F791.out)).trans F791.out)
            have F799 := Aside0.mk ((hb.block _ (blk_lt F792.out)).trans F792.out)
            have F800 := Aside0.mk ((hb.block _ (blk_lt F793.out)).trans F793.out)
            have F801 := Aside0.mk ((hb.block _ (blk_lt F794.out)).trans F794.out)
            have HB802 := Aside0.mk (below_then HB795.out HB795.out.size hb)
            clear hb
            refine hK.out _ _ (KA.out _ F797.out F798.out) (fun hHeld2 => ?_)
            clear hK K hHeld
            have hHeld := hHeld2
            clear hHeld2
            (try simp only [Act.put, g4, g5, g6])
            refine wpAnyH_ready (rs := [6]) (by kernel_rfl) (by simp) ?_
            refine AllReadyH.cons (o := ?ob121) ?hb121 (fun K hK => ?sb121) ?mb121
            case hb121 => simp only [g1, g2, g3]; rfl
            case sb121 =>
              have fz0 := blk_frozen F801.out 0
              have fz1 := blk_frozen F801.out 1
              have y0 := (blk_cell F801.out 0).trans rfl
              have y1 := (blk_cell F801.out 1).trans rfl
              go_simp
              clear fz0 fz1 y0 y1
              have F804' := blk_far (blk_far F797.out (p := ⟨p782, 0, none⟩) (by have := Lp782_a.out; show _ ≠ p782; omega) (.int .u64 l)) (p := ⟨p782, 1, none⟩) (by have := Lp782_a.out; show _ ≠ p782; omega) (.int .u64 h)
              have F805' := blk_far (blk_far F798.out (p := ⟨p782, 0, none⟩) (by have := Lp782_b.out; show _ ≠ p782; omega) (.int .u64 l)) (p := ⟨p782, 1, none⟩) (by have := Lp782_b.out; show _ ≠ p782; omega) (.int .u64 h)
              have F806' := blk_far (blk_far F799.out (p := ⟨p782, 0, none⟩) (by have := Lp782_c.out; show _ ≠ p782; omega) (.int .u64 l)) (p := ⟨p782, 1, none⟩) (by have := Lp782_c.out; show _ ≠ p782; omega) (.int .u64 h)
              have F807' := blk_far (blk_far F800.out (p := ⟨p782, 0, none⟩) (by show p712 ≠ p782; have := Lp782_p5.out; omega) (.int .u64 l)) (p := ⟨p782, 1, none⟩) (by show p712 ≠ p782; have := Lp782_p5.out; omega) (.int .u64 h)
              have F808' : ((w796.setCell ⟨p782, 0, none⟩ (.int .u64 l)).setCell ⟨p782, 1, none⟩ (.int .u64 h)).heap[p782]? = some (.cells #[.int .u64 l, .int .u64 h] 93 (0, 0)) := by have P := blk_set (blk_set F801.out 0 (.int .u64 l)) 1 (.int .u64 h); simpa using P
              have HB809' := bset (bset HB802.out Gp782.out 0 (.int .u64 l)) Gp782.out 1 (.int .u64 h)
              obtain ⟨V803, hV803⟩ : ∃ V, V = ((w796.setCell ⟨p782, 0, none⟩ (.int .u64 l)).setCell ⟨p782, 1, none⟩ (.int .u64 h)) := ⟨_, rfl⟩
              rw [← hV803]
              rw [← hV803] at F804'
              have F804 := Aside0.mk F804'
              clear F804'
              rw [← hV803] at F805'
              have F805 := Aside0.mk F805'
              clear F805'
              rw [← hV803] at F806'
              have F806 := Aside0.mk F806'
              clear F806'
              rw [← hV803] at F807'
              have F807 := Aside0.mk F807'
              clear F807'
              rw [← hV803] at F808'
              have F808 := Aside0.mk F808'
              clear F808'
              rw [← hV803] at HB809'
              have HB809 := Aside0.mk HB809'
              clear HB809'
              clear hV803
              refine hK.out _ _ (KA.out _ F804.out F805.out) (fun hHeld2 => ?_)
              clear hK K hHeld
              have hHeld := hHeld2
              clear hHeld2
              (try simp only [Act.put, g4, g5, g6])
              refine wpAnyH_ready (rs := [7]) (by kernel_rfl) (by simp) ?_
              refine AllReadyH.cons (o := ?ob122) ?hb122 (fun K hK => ?sb122) ?mb122
              case hb122 => simp only [g1, g2, g3]; rfl
              case sb122 =>
                have fz0 := blk_frozen F807.out 0
                have fz1 := blk_frozen F807.out 1
                have y0 := (blk_cell F807.out 0).trans rfl
                have y1 := (blk_cell F807.out 1).trans rfl
                go_simp
                clear fz0 fz1 y0 y1
                have F811' := blk_far (blk_far F804.out (p := ⟨p712, 0, none⟩) (by have := Lp712_a.out; show _ ≠ p712; omega) (.int .u64 l2)) (p := ⟨p712, 1, none⟩) (by have := Lp712_a.out; show _ ≠ p712; omega) (.int .u64 h2)
                have F812' := blk_far (blk_far F805.out (p := ⟨p712, 0, none⟩) (by have := Lp712_b.out; show _ ≠ p712; omega) (.int .u64 l2)) (p := ⟨p712, 1, none⟩) (by have := Lp712_b.out; show _ ≠ p712; omega) (.int .u64 h2)
                have F813' := blk_far (blk_far F806.out (p := ⟨p712, 0, none⟩) (by have := Lp712_c.out; show _ ≠ p712; omega) (.int .u64 l2)) (p := ⟨p712, 1, none⟩) (by have := Lp712_c.out; show _ ≠ p712; omega) (.int .u64 h2)
                have F814' : ((V803.setCell ⟨p712, 0, none⟩ (.int .u64 l2)).setCell ⟨p712, 1, none⟩ (.int .u64 h2)).heap[p712]? = some (.cells #[.int .u64 l2, .int .u64 h2] 93 (0, 0)) := by have P := blk_set (blk_set F807.out 0 (.int .u64 l2)) 1 (.int .u64 h2); simpa using P
                have F815' := blk_far (blk_far F808.out (p := ⟨p712, 0, none⟩) (by show p782 ≠ p712; have := Lp782_p5.out; omega) (.int .u64 l2)) (p := ⟨p712, 1, none⟩) (by show p782 ≠ p712; have := Lp782_p5.out; omega) (.int .u64 h2)
                have HB816' := bset (bset HB809.out Gp712.out 0 (.int .u64 l2)) Gp712.out 1 (.int .u64 h2)
                obtain ⟨V810, hV810⟩ : ∃ V, V = ((V803.setCell ⟨p712, 0, none⟩ (.int .u64 l2)).setCell ⟨p712, 1, none⟩ (.int .u64 h2)) := ⟨_, rfl⟩
                rw [← hV810]
                rw [← hV810] at F811'
                have F811 := Aside0.mk F811'
                clear F811'
                rw [← hV810] at F812'
                have F812 := Aside0.mk F812'
                clear F812'
                rw [← hV810] at F813'
                have F813 := Aside0.mk F813'
                clear F813'
                rw [← hV810] at F814'
                have F814 := Aside0.mk F814'
                clear F814'
                rw [← hV810] at F815'
                have F815 := Aside0.mk F815'
                clear F815'
                rw [← hV810] at HB816'
                have HB816 := Aside0.mk HB816'
                clear HB816'
                clear hV810
                refine hK.out _ _ (KA.out _ F811.out F812.out) (fun hHeld2 => ?_)
                clear hK K hHeld
                have hHeld := hHeld2
                clear hHeld2
                (try simp only [Act.put, g4, g5, g6])
                refine wpAnyH_done (by kernel_rfl) ?_ _
                go_wp2
                go_meet
                case rel => exact ⟨p782, p712, rfl, rfl, (by have := Lp782_p5.out; omega), (by have := Lp782_c.out; omega), (by have := Lp712_c.out; omega), F813.out, F815.out, F814.out, HB816.out⟩
              exact AllReadyH.nil
            exact AllReadyH.nil
          exact AllReadyH.nil
        exact AllReadyH.nil
      exact AllReadyH.nil
    exact AllReadyH.nil
  obtain ⟨p, q, rfl, rfl, npq, cp, cq, fc, fp, fq, hb⟩ := hcut
  have LL := Aside0.mk (And.intro npq (And.intro cp cq))
  have ST := Aside0.mk (And.intro fc (And.intro fp (And.intro fq hb)))
  clear npq cp cq fc fp fq hb
  go_wp2
  go_loopg [7, 13] 3 (fun k c j wr => ∃ (cc jj x y : Int), c = .int .u64 cc ∧ 0 ≤ cc ∧ cc ≤ 1 ∧ j = .int .i64 jj ∧ 0 ≤ jj ∧ jj ≤ 2 ∧ jj + k = 3 ∧ u64 x ∧ u64 y ∧ wr.heap[w.heap.size + 1 + 1]? = some (.cells #[.int .u64 0, .int .u64 0] 98 (0, 0)) ∧ wr.heap[p]? = some (.cells #[.int .u64 x, .int .u64 y] 93 (0, 0)) ∧ wr.heap[q]? = some (.cells #[.int .u64 l2, .int .u64 h2] 93 (0, 0)) ∧ Below w.heap.size w wr)
  case atStart => exact ⟨0, 0, l, h, rfl, (by decide), (by decide), rfl, (by decide), (by decide), (by decide), HH.out.1.2, HH.out.1.1, ST.out.1, ST.out.2.1, ST.out.2.2.1, ST.out.2.2.2⟩
  case round =>
    obtain ⟨cc, jj, x, y, rfl, c0, c1, rfl, j0, j2, jk, ux, uy, fc, fp, fq, hb⟩ := hrel
    have RR := Aside0.mk (And.intro ux (And.intro uy (And.intro c0 c1)))
    have RS := Aside0.mk (And.intro fc (And.intro fp (And.intro fq hb)))
    clear ux uy fc fp fq hb c0 c1 ST
    have jc : jj = 0 ∨ jj = 1 ∨ jj = 2 := by omega
    rcases jc with rfl | rfl | rfl
    · have JK := Aside0.mk jk
      clear jk j0 j2
      go_wp2
      refine wp_region_held_drew (S := fun W => W.cell? ⟨q, 0, none⟩ = some (.int .u64 l2)) (by kernel_rfl) ((blk_cell RS.out.2.2.1 0).trans rfl) (fun hHeld => ?_)
      refine tk (i := 0) ?_
      (try simp only [Act.put, g4, g5, g6])
      refine tk (i := 1) ?_
      (try simp only [Act.put, g4, g5, g6])
      refine tk (i := 2) ?_
      (try simp only [Act.put, g4, g5, g6])
      refine tk (i := 4) ?_
      (try simp only [Act.put, g4, g5, g6])
      refine tk (i := 5) ?_
      (try simp only [Act.put, g4, g5, g6])
      refine tk (i := 6) ?_
      (try simp only [Act.put, g4, g5, g6])
      refine tk (i := 7) ?_
      (try simp only [Act.put, g4, g5, g6])
      refine wpAnyH_ready (rs := [3]) (by kernel_rfl) (by simp) ?_
      refine AllReadyH.cons (o := ?ob123) ?hb123 (fun K hK => ?sb123) ?mb123
      case hb123 => simp only [g1, g2, g3]; rfl
      case sb123 =>
        have cp : wr.drew.cell? ⟨p, 0, none⟩ = some (.int .u64 x) := (blk_cell RS.out.2.1 0).trans rfl
        go_simp
        clear cp
        refine hK.out _ _ ((blk_cell RS.out.2.2.1 0).trans rfl) (fun hHeld2 => ?_)
        clear hK K hHeld
        have hHeld := hHeld2
        clear hHeld2
        (try simp only [Act.put, g4, g5, g6])
        refine wpAnyH_ready (rs := [8]) (by kernel_rfl) (by simp) ?_
        refine AllReadyH.cons (o := ?ob124) ?hb124 (fun K hK => ?sb124) ?mb124
        case hb124 => simp only [g1, g2, g3]; rfl
        case sb124 =>
          obtain ⟨r, d, hr, ur, d0, d1⟩ := Sub64_run x l2 cc RR.out.1 HH.out.2.2 RR.out.2.2.1 RR.out.2.2.2 wr.drew
          have RD := Aside0.mk (And.intro ur (And.intro d0 d1))
          clear ur d0 d1
          go_simp
          clear hr
          refine hK.out _ _ ((blk_cell RS.out.2.2.1 0).trans rfl) (fun hHeld2 => ?_)
          clear hK K hHeld
          have hHeld := hHeld2
          clear hHeld2
          (try simp only [Act.put, g4, g5, g6])
          refine tk (i := 9) ?_
          (try simp only [Act.put, g4, g5, g6])
          refine tk (i := 10) ?_
          (try simp only [Act.put, g4, g5, g6])
          refine tk (i := 11) ?_
          (try simp only [Act.put, g4, g5, g6])
          refine tk (i := 12) ?_
          (try simp only [Act.put, g4, g5, g6])
          refine wpAnyH_ready (rs := [13]) (by kernel_rfl) (by simp) ?_
          refine AllReadyH.cons (o := ?ob125) ?hb125 (fun K hK => ?sb125) ?mb125
          case hb125 => simp only [g1, g2, g3]; rfl
          case sb125 =>
            have fz : wr.drew.frozen? ⟨p, 0, none⟩ = false := blk_frozen RS.out.2.1 0
            have cp : wr.drew.cell? ⟨p, 0, none⟩ = some (.int .u64 x) := (blk_cell RS.out.2.1 0).trans rfl
            go_simp
            clear fz cp
            refine hK.out _ _ ((blk_cell (blk_far (w := wr.drew) RS.out.2.2.1 (p := ⟨p, 0, none⟩) (fun e => LL.out.1 e.symm) (.int .u64 r)) 0).trans rfl) (fun hHeld2 => ?_)
            clear hK K hHeld
            have hHeld := hHeld2
            clear hHeld2
            (try simp only [Act.put, g4, g5, g6])
            refine tk (i := 14) ?_
            (try simp only [Act.put, g4, g5, g6])
            refine wpAnyH_done (by kernel_rfl) ?_ _
            go_wp2
            go_roundg 2
            case measure => have := JK.out; omega
            case rel => exact ⟨d, 1, r, y, rfl, RD.out.2.1, RD.out.2.2, rfl, (by decide), (by decide), (by have := JK.out; omega), RD.out.1, RR.out.2.1, blk_far (w := wr.drew) RS.out.1 (p := ⟨p, 0, none⟩) (by have := LL.out.2.1; show _ ≠ p; omega) _, (show (wr.drew.setCell ⟨p, 0, none⟩ (.int .u64 r)).heap[p]? = some (.cells #[.int .u64 r, .int .u64 y] 93 (0, 0)) by have P := blk_set (w := wr.drew) RS.out.2.1 0 (.int .u64 r); simpa using P), blk_far (w := wr.drew) RS.out.2.2.1 (p := ⟨p, 0, none⟩) (fun e => LL.out.1 e.symm) _, bset (below_drew RS.out.2.2.2) (by have := LL.out.2.1; omega) 0 _⟩
          exact AllReadyH.nil
        exact AllReadyH.nil
      exact AllReadyH.nil
    · have JK := Aside0.mk jk
      clear jk j0 j2
      go_wp2
      refine wp_region_held_drew (S := fun W => W.cell? ⟨q, 1, none⟩ = some (.int .u64 h2)) (by kernel_rfl) ((blk_cell RS.out.2.2.1 1).trans rfl) (fun hHeld => ?_)
      refine tk (i := 0) ?_
      (try simp only [Act.put, g4, g5, g6])
      refine tk (i := 1) ?_
      (try simp only [Act.put, g4, g5, g6])
      refine tk (i := 2) ?_
      (try simp only [Act.put, g4, g5, g6])
      refine tk (i := 4) ?_
      (try simp only [Act.put, g4, g5, g6])
      refine tk (i := 5) ?_
      (try simp only [Act.put, g4, g5, g6])
      refine tk (i := 6) ?_
      (try simp only [Act.put, g4, g5, g6])
      refine tk (i := 7) ?_
      (try simp only [Act.put, g4, g5, g6])
      refine wpAnyH_ready (rs := [3]) (by kernel_rfl) (by simp) ?_
      refine AllReadyH.cons (o := ?ob126) ?hb126 (fun K hK => ?sb126) ?mb126
      case hb126 => simp only [g1, g2, g3]; rfl
      case sb126 =>
        have cp : wr.drew.cell? ⟨p, 1, none⟩ = some (.int .u64 y) := (blk_cell RS.out.2.1 1).trans rfl
        go_simp
        clear cp
        refine hK.out _ _ ((blk_cell RS.out.2.2.1 1).trans rfl) (fun hHeld2 => ?_)
        clear hK K hHeld
        have hHeld := hHeld2
        clear hHeld2
        (try simp only [Act.put, g4, g5, g6])
        refine wpAnyH_ready (rs := [8]) (by kernel_rfl) (by simp) ?_
        refine AllReadyH.cons (o := ?ob127) ?hb127 (fun K hK => ?sb127) ?mb127
        case hb127 => simp only [g1, g2, g3]; rfl
        case sb127 =>
          obtain ⟨r, d, hr, ur, d0, d1⟩ := Sub64_run y h2 cc RR.out.2.1 HH.out.2.1 RR.out.2.2.1 RR.out.2.2.2 wr.drew
          have RD := Aside0.mk (And.intro ur (And.intro d0 d1))
          clear ur d0 d1
          go_simp
          clear hr
          refine hK.out _ _ ((blk_cell RS.out.2.2.1 1).trans rfl) (fun hHeld2 => ?_)
          clear hK K hHeld
          have hHeld := hHeld2
          clear hHeld2
          (try simp only [Act.put, g4, g5, g6])
          refine tk (i := 9) ?_
          (try simp only [Act.put, g4, g5, g6])
          refine tk (i := 10) ?_
          (try simp only [Act.put, g4, g5, g6])
          refine tk (i := 11) ?_
          (try simp only [Act.put, g4, g5, g6])
          refine tk (i := 12) ?_
          (try simp only [Act.put, g4, g5, g6])
          refine wpAnyH_ready (rs := [13]) (by kernel_rfl) (by simp) ?_
          refine AllReadyH.cons (o := ?ob128) ?hb128 (fun K hK => ?sb128) ?mb128
          case hb128 => simp only [g1, g2, g3]; rfl
          case sb128 =>
            have fz : wr.drew.frozen? ⟨p, 1, none⟩ = false := blk_frozen RS.out.2.1 1
            have cp : wr.drew.cell? ⟨p, 1, none⟩ = some (.int .u64 y) := (blk_cell RS.out.2.1 1).trans rfl
            go_simp
            clear fz cp
            refine hK.out _ _ ((blk_cell (blk_far (w := wr.drew) RS.out.2.2.1 (p := ⟨p, 1, none⟩) (fun e => LL.out.1 e.symm) (.int .u64 r)) 1).trans rfl) (fun hHeld2 => ?_)
            clear hK K hHeld
            have hHeld := hHeld2
            clear hHeld2
            (try simp only [Act.put, g4, g5, g6])
            refine tk (i := 14) ?_
            (try simp only [Act.put, g4, g5, g6])
            refine wpAnyH_done (by kernel_rfl) ?_ _
            go_wp2
            go_roundg 1
            case measure => have := JK.out; omega
            case rel => exact ⟨d, 2, x, r, rfl, RD.out.2.1, RD.out.2.2, rfl, (by decide), (by decide), (by have := JK.out; omega), RR.out.1, RD.out.1, blk_far (w := wr.drew) RS.out.1 (p := ⟨p, 1, none⟩) (by have := LL.out.2.1; show _ ≠ p; omega) _, (show (wr.drew.setCell ⟨p, 1, none⟩ (.int .u64 r)).heap[p]? = some (.cells #[.int .u64 x, .int .u64 r] 93 (0, 0)) by have P := blk_set (w := wr.drew) RS.out.2.1 1 (.int .u64 r); simpa using P), blk_far (w := wr.drew) RS.out.2.2.1 (p := ⟨p, 1, none⟩) (fun e => LL.out.1 e.symm) _, bset (below_drew RS.out.2.2.2) (by have := LL.out.2.1; omega) 1 _⟩
          exact AllReadyH.nil
        exact AllReadyH.nil
      exact AllReadyH.nil
    · have JK := Aside0.mk jk
      clear jk j0 j2
      have cp0 := (blk_cell RS.out.2.1 0).trans rfl
      have cp1 := (blk_cell RS.out.2.1 1).trans rfl
      go_wp2_with (first
        | (go_at_call 154; refine (of_calls x y _).mono ?_; rintro e w1 ⟨rfl, hb⟩
           have fr := (hb.block _ (blk_lt RS.out.1)).trans RS.out.1
           have HB2 := Aside0.mk (below_then RS.out.2.2.2 RS.out.2.2.2.size hb)
           have FR := Aside0.mk fr
           have fz0 := blk_frozen fr 0; have fz1 := blk_frozen fr 1
           have y0 := (blk_cell fr 0).trans rfl; have y1 := (blk_cell fr 1).trans rfl
           clear hb fr cp0 cp1)
        | fail)
      have P := blk_set (blk_set FR.out 0 (.int .u64 y)) 1 (.int .u64 x)
      have k0 := (blk_cell P 0).trans rfl
      have k1 := (blk_cell P 1).trans rfl
      clear P fz0 fz1 y0 y1
      refine bodyPost_ret (v := .agg #[.int .u64 y, .int .u64 x]) (by simp [results, Tryz.results146, go_sem, k0, k1]) rfl ?_
      exact ⟨y, x, rfl, RR.out.2.1, RR.out.1, bset (bset HB2.out (by omega) 0 _) (by omega) 1 _⟩
end Go.Proofs.YticonaahlplbjaaGreatDoor.Tn
