/- sum.finite. -/
import Derived.Test.YticonaahlplbjaaGreatDoorTnAlign
import Derived.Test.YticonaahlplbjaaGreatDoorTnProd
namespace Go.Proofs.YticonaahlplbjaaGreatDoor.Tn
open Go.RowKit Go.Proofs.YticonaahlplbjaaGreatDoor.PTopNans Go.Proofs.YticonaahlplbjaaGreatDoorW.PrintWords Go.Proofs.YticonaahlplbjaaGreatDoorW.PrintLast Go.Proofs.YticonaahlplbjaaGreatDoorW.PrintMore
set_option linter.unusedVariables false
set_option linter.unusedSimpArgs false
theorem Cmp_calls (a b c d : Int) (w : World) : Calls Tryz.prog 144 #[.agg #[.int .u64 a, .int .u64 b], .agg #[.int .u64 c, .int .u64 d]] w fun e w' => ∃ r, e = .returned (.int .i64 r) ∧ Below w.heap.size w w' := by
  have K : ∃ r, wide_Cmp.f a b c d = some r := by
    unfold wide_Cmp.f wide_order.f
    (repeat' split) <;> exact ⟨_, rfl⟩
  obtain ⟨r, hr⟩ := K
  refine (wide_Cmp.calls a b c d r w hr).mono ?_
  rintro e w' ⟨rfl, hb⟩
  exact ⟨r, rfl, hb⟩
theorem two_boxes (w : World) (o1 o2 : Obj) : ((w.alloc o1).alloc o2).heap[w.heap.size]? = some o1 ∧ ((w.alloc o1).alloc o2).heap[w.heap.size + 1]? = some o2 ∧ Below w.heap.size w ((w.alloc o1).alloc o2) := by
  have qA := heap_alloc_new w o1
  have qB := heap_alloc_new (w.alloc o1) o2
  rw [World.size_alloc] at qB
  exact ⟨(heap_alloc_old o2 (blk_lt qA)).trans qA, qB, (below_alloc (Below.refl w.heap.size w) o1).alloc (by rw [World.size_alloc]; omega) o2⟩
set_option maxRecDepth 100000 in
set_option maxHeartbeats 4000000 in
theorem finite_calls {wd : Int} (C : Fl wd) (n1 n2 : Bool) (k1 k2 x1 x2 s1 s2 : Int) (w : World) (u1 : u64 s1) (u2 : u64 s2) (i1 : i64r x1) (i2 : i64r x2) : Calls Tryz.prog 128 #[.int .i64 wd, .agg #[.bool n1, .int .i64 k1, .int .i64 x1, .int .u64 s1], .agg #[.bool n2, .int .i64 k2, .int .i64 x2, .int .u64 s2]] w (GoodP w wd) := by
  have HB := Aside0.mk ((below_alloc (Below.refl w.heap.size w) (.cells #[.bool n1, .int .i64 k1, .int .i64 x1, .int .u64 s1] 46)).alloc (by rw [World.size_alloc]; omega) (.cells #[.bool n2, .int .i64 k2, .int .i64 x2, .int .u64 s2] 46))
  have qA := heap_alloc_new w (.cells #[.bool n1, .int .i64 k1, .int .i64 x1, .int .u64 s1] 46)
  have QA := Aside0.mk ((heap_alloc_old (.cells #[.bool n2, .int .i64 k2, .int .i64 x2, .int .u64 s2] 46) (blk_lt qA)).trans qA)
  have qB := heap_alloc_new (w.alloc (.cells #[.bool n1, .int .i64 k1, .int .i64 x1, .int .u64 s1] 46)) (.cells #[.bool n2, .int .i64 k2, .int .i64 x2, .int .u64 s2] 46)
  rw [World.size_alloc] at qB
  have QB := Aside0.mk qB
  clear qA qB
  have C := Aside0.mk C
  have UU := Aside0.mk (And.intro u1 u2)
  clear u1 u2
  have cx : (x1 < x2) ∨ ¬ (x1 < x2) := Decidable.em _
  go_enter Tryz.func128, Tryz.ntmps128
  go_upto_if 13 with (fail)
  go_cut [6] from 9 (fun s6 wc => ∃ (m1 m2 : Bool) (l1 l2 y1 y2 t1 t2 : Int), u64 t1 ∧ u64 t2 ∧ wc.heap[w.heap.size]? = some (.cells #[.bool m1, .int .i64 l1, .int .i64 y1, .int .u64 t1] 46 (0, 0)) ∧ wc.heap[w.heap.size + 1]? = some (.cells #[.bool m2, .int .i64 l2, .int .i64 y2, .int .u64 t2] 46 (0, 0)) ∧ Below w.heap.size w wc)
  case first =>
    rcases cx with cx | cx
    · have d : decide (x1 < x2) = true := decide_eq_true cx
      clear QA QB HB
      go_wp2
      go_meet
      case rel => exact ⟨n2, n1, k2, k1, x2, x1, s2, s1, UU.out.2, UU.out.1, (two_boxes w _ _).1, (two_boxes w _ _).2.1, (two_boxes w _ _).2.2⟩
    · have d : decide (x1 < x2) = false := decide_eq_false cx
      have d' : (x1 < x2) = False := eq_false cx
      go_wp2
      go_meet
      case rel => exact ⟨n1, n2, k1, k2, x1, x2, s1, s2, UU.out.1, UU.out.2, QA.out, QB.out, HB.out⟩
  obtain ⟨m1, m2, l1, l2, y1, y2, t1, t2, u1, u2, qa, qb, hb⟩ := hcut
  have QA0 := Aside0.mk qa
  have QB0 := Aside0.mk qb
  have H0 := Aside0.mk hb
  have TT := Aside0.mk (And.intro u1 u2)
  have a0 := (blk_cell qa 0).trans rfl
  have b0 := (blk_cell qb 0).trans rfl
  have a1 := (blk_cell qa 1).trans rfl
  have b1 := (blk_cell qb 1).trans rfl
  have a2 := (blk_cell qa 2).trans rfl
  have b2 := (blk_cell qb 2).trans rfl
  have a3 := (blk_cell qa 3).trans rfl
  have b3 := (blk_cell qb 3).trans rfl
  clear qa qb hb u1 u2 QA QB HB cx UU
  go_upto_if 23 with (first
    | (go_at_call 145; refine (align_calls m1 m2 l1 l2 y1 y2 t1 t2 _ TT.out.1 TT.out.2).mono ?_
       rintro e w1 ⟨ah, al, bh, bl, ex, lost, rfl, v1, v2, v3, v4, v5, hb⟩
       have VV := Aside0.mk (And.intro v1 (And.intro v2 (And.intro v3 (And.intro v4 v5))))
       have qa := (hb.block _ (blk_lt QA0.out)).trans QA0.out
       have qb := (hb.block _ (blk_lt QB0.out)).trans QB0.out
       have QA1 := Aside0.mk ((heap_alloc_old (.cells #[.int .u64 ah, .int .u64 al, .int .u64 bh, .int .u64 bl, .int .i64 ex, .bool lost] 127) (blk_lt qa)).trans qa)
       have QB1 := Aside0.mk ((heap_alloc_old (.cells #[.int .u64 ah, .int .u64 al, .int .u64 bh, .int .u64 bl, .int .i64 ex, .bool lost] 127) (blk_lt qb)).trans qb)
       have QD1 := Aside0.mk (heap_alloc_new w1 (.cells #[.int .u64 ah, .int .u64 al, .int .u64 bh, .int .u64 bl, .int .i64 ex, .bool lost] 127))
       have H1 := Aside0.mk ((below_then H0.out H0.out.size hb).alloc (below_then H0.out H0.out.size hb).size (.cells #[.int .u64 ah, .int .u64 al, .int .u64 bh, .int .u64 bl, .int .i64 ex, .bool lost] 127))
       clear v1 v2 v3 v4 v5 a0 a1 a2 a3 b0 b1 b2 b3
       have a0 := (blk_cell QA1.out 0).trans rfl
       have b0 := (blk_cell QB1.out 0).trans rfl
       clear hb qa qb)
    | fail)
  clear a0 b0
  obtain ⟨W1, hW1⟩ : ∃ W, W = w1.alloc (.cells #[.int .u64 ah, .int .u64 al, .int .u64 bh, .int .u64 bl, .int .i64 ex, .bool lost] 127) := ⟨_, rfl⟩
  obtain ⟨p, hp⟩ : ∃ p, p = w1.heap.size := ⟨_, rfl⟩
  rw [← hW1] at QA1 QB1 QD1 H1 ⊢
  rw [← hp] at QD1 ⊢
  clear hW1 hp
  have qa1 := QA1.out
  have qb1 := QB1.out
  have qd1 := QD1.out
  have a0 := (blk_cell qa1 0).trans rfl
  have b0 := (blk_cell qb1 0).trans rfl
  have d0 := (blk_cell qd1 0).trans rfl
  have d1 := (blk_cell qd1 1).trans rfl
  have d2 := (blk_cell qd1 2).trans rfl
  have d3 := (blk_cell qd1 3).trans rfl
  have d4 := (blk_cell qd1 4).trans rfl
  have d5 := (blk_cell qd1 5).trans rfl
  clear qa1 qb1 qd1
  obtain ⟨b, cb⟩ : ∃ b, (m1 == m2) = b := ⟨_, rfl⟩
  rw [cb]
  clear cb
  have cb : b = true ∨ b = false := by cases b <;> simp
  rcases cb with rfl | rfl
  · go_wp2
    have H1 := Aside0.mk (below_drew H1.out)
    go_region_held (fun W => W.cell? ⟨w.heap.size, 0, none⟩ = some (.bool m1) ∧ W.cell? ⟨p, 0, none⟩ = some (.int .u64 ah) ∧ W.cell? ⟨p, 1, none⟩ = some (.int .u64 al) ∧ W.cell? ⟨p, 2, none⟩ = some (.int .u64 bh) ∧ W.cell? ⟨p, 3, none⟩ = some (.int .u64 bl) ∧ W.cell? ⟨p, 4, none⟩ = some (.int .i64 ex) ∧ W.cell? ⟨p, 5, none⟩ = some (.bool lost)) (go_keep) (first
      | (go_at_call 139; refine (Add_calls ah al bh bl _ VV.out.1 VV.out.2.1 VV.out.2.2.1 VV.out.2.2.2.1).mono ?_
         rintro e w2 ⟨h, l, rfl, v1, v2, hb⟩
         have qa2 := (hb.block _ (blk_lt QA1.out)).trans QA1.out
         have qb2 := (hb.block _ (blk_lt QB1.out)).trans QB1.out
         have qd2 := (hb.block _ (blk_lt QD1.out)).trans QD1.out
         have QA2 := Aside0.mk qa2
         have QB2 := Aside0.mk qb2
         have QD2 := Aside0.mk qd2
         have H2 := Aside0.mk (below_then H1.out H1.out.size hb)
         have V2 := Aside0.mk (And.intro v1 v2)
         clear v1 v2
         clear a0 b0 d0 d1 d2 d3 d4 d5
         have a0 := (blk_cell qa2 0).trans rfl
         have b0 := (blk_cell qb2 0).trans rfl
         have d0 := (blk_cell qd2 0).trans rfl
         have d1 := (blk_cell qd2 1).trans rfl
         have d2 := (blk_cell qd2 2).trans rfl
         have d3 := (blk_cell qd2 3).trans rfl
         have d4 := (blk_cell qd2 4).trans rfl
         have d5 := (blk_cell qd2 5).trans rfl
         clear hb qa2 qb2 qd2
         skip)
      | (go_at_call 123; refine (C.out.P _ _ _ _ _ _ V2.out.1 V2.out.2 VV.out.2.2.2.2).mono ?_
         rintro e w3 ⟨n, rfl, gn, hb⟩
         have qa3 := (hb.block _ (blk_lt QA2.out)).trans QA2.out
         have qb3 := (hb.block _ (blk_lt QB2.out)).trans QB2.out
         have qd3 := (hb.block _ (blk_lt QD2.out)).trans QD2.out
         have QA3 := Aside0.mk qa3
         have QB3 := Aside0.mk qb3
         have QD3 := Aside0.mk qd3
         have H3 := Aside0.mk (below_then H2.out H2.out.size hb)
         have GN := Aside0.mk gn
         clear gn
         have HE := Aside0.mk (below_then H2.out H2.out.size hb)
         clear a0 b0 d0 d1 d2 d3 d4 d5
         have a0 := (blk_cell qa3 0).trans rfl
         have b0 := (blk_cell qb3 0).trans rfl
         have d0 := (blk_cell qd3 0).trans rfl
         have d1 := (blk_cell qd3 1).trans rfl
         have d2 := (blk_cell qd3 2).trans rfl
         have d3 := (blk_cell qd3 3).trans rfl
         have d4 := (blk_cell qd3 4).trans rfl
         have d5 := (blk_cell qd3 5).trans rfl
         clear hb qa3 qb3 qd3
         skip)
      | fail)
    all_goals
      go_wp2
      refine bodyPost_ret (v := .int .u64 n) (by simp [results, Tryz.results128, go_sem]) rfl ?_
      exact ⟨n, rfl, GN.out, HE.out⟩
  · go_wp2_with (first
      | (go_at_call 144; refine (Cmp_calls ah al bh bl _).mono ?_
         rintro e w2 ⟨r, rfl, hb⟩
         have qa2 := (hb.block _ (blk_lt QA1.out)).trans QA1.out
         have qb2 := (hb.block _ (blk_lt QB1.out)).trans QB1.out
         have qd2 := (hb.block _ (blk_lt QD1.out)).trans QD1.out
         have QA2 := Aside0.mk qa2
         have QB2 := Aside0.mk qb2
         have QD2 := Aside0.mk qd2
         have H2 := Aside0.mk (below_then H1.out H1.out.size hb)
         clear a0 b0 d0 d1 d2 d3 d4 d5
         have a0 := (blk_cell qa2 0).trans rfl
         have b0 := (blk_cell qb2 0).trans rfl
         have d0 := (blk_cell qd2 0).trans rfl
         have d1 := (blk_cell qd2 1).trans rfl
         have d2 := (blk_cell qd2 2).trans rfl
         have d3 := (blk_cell qd2 3).trans rfl
         have d4 := (blk_cell qd2 4).trans rfl
         have d5 := (blk_cell qd2 5).trans rfl
         clear hb qa2 qb2 qd2
         skip)
      | (go_at_call 92; refine (C.out.Z _ _).mono ?_
         rintro e w9 ⟨n, rfl, gn, hb⟩
         have GN := Aside0.mk gn
         have HE := Aside0.mk (below_then H2.out H2.out.size hb)
         clear gn hb)
      | (go_at_call 146; refine (Sub_calls ah al bh bl _ VV.out.1 VV.out.2.1 VV.out.2.2.1 VV.out.2.2.2.1).mono ?_
         rintro e w3 ⟨dh, dl, rfl, v1, v2, hb⟩
         have V3 := Aside0.mk (And.intro v1 v2)
         have qa' := (hb.block _ (blk_lt QA2.out)).trans QA2.out
         have qb' := (hb.block _ (blk_lt QB2.out)).trans QB2.out
         have qd' := (hb.block _ (blk_lt QD2.out)).trans QD2.out
         have qa3 := (heap_alloc_old (.cells #[.int .u64 dh, .int .u64 dl] 98) (blk_lt qa')).trans qa'
         have qb3 := (heap_alloc_old (.cells #[.int .u64 dh, .int .u64 dl] 98) (blk_lt qb')).trans qb'
         have qd3 := (heap_alloc_old (.cells #[.int .u64 dh, .int .u64 dl] 98) (blk_lt qd')).trans qd'
         have QA3 := Aside0.mk qa3
         have QB3 := Aside0.mk qb3
         have QD3 := Aside0.mk qd3
         have QS3 := Aside0.mk (heap_alloc_new w3 (.cells #[.int .u64 dh, .int .u64 dl] 98))
         have H3 := Aside0.mk ((below_then H2.out H2.out.size hb).alloc (below_then H2.out H2.out.size hb).size (.cells #[.int .u64 dh, .int .u64 dl] 98))
         have QA3' := Aside0.mk qa'
         have QD3' := Aside0.mk qd'
         have H3' := Aside0.mk (below_then H2.out H2.out.size hb)
         clear v1 v2 qa' qb' qd'
         clear a0 b0 d0 d1 d2 d3 d4 d5
         have a0 := (blk_cell qa3 0).trans rfl
         have b0 := (blk_cell qb3 0).trans rfl
         have d0 := (blk_cell qd3 0).trans rfl
         have d1 := (blk_cell qd3 1).trans rfl
         have d2 := (blk_cell qd3 2).trans rfl
         have d3 := (blk_cell qd3 3).trans rfl
         have d4 := (blk_cell qd3 4).trans rfl
         have d5 := (blk_cell qd3 5).trans rfl
         clear hb qa3 qb3 qd3
         skip)
      | (go_at_call 123; refine (C.out.P _ _ _ _ _ _ V3.out.1 V3.out.2 VV.out.2.2.2.2).mono ?_
         rintro e w9 ⟨n, rfl, gn, hb⟩
         have GN := Aside0.mk gn
         have HE := Aside0.mk (below_then H3.out H3.out.size hb)
         clear gn hb)
      | fail)
    · refine bodyPost_ret (v := .int .u64 n) (by simp [results, Tryz.results128, go_sem]) rfl ?_
      exact ⟨n, rfl, GN.out, HE.out⟩
    · have H2 := Aside0.mk (below_drew H2.out)
      go_region_held (fun W => W.cell? ⟨w.heap.size + 1, 0, none⟩ = some (.bool m2) ∧ W.cell? ⟨p, 0, none⟩ = some (.int .u64 ah) ∧ W.cell? ⟨p, 1, none⟩ = some (.int .u64 al) ∧ W.cell? ⟨p, 2, none⟩ = some (.int .u64 bh) ∧ W.cell? ⟨p, 3, none⟩ = some (.int .u64 bl) ∧ W.cell? ⟨p, 4, none⟩ = some (.int .i64 ex) ∧ W.cell? ⟨p, 5, none⟩ = some (.bool lost)) (go_keep) (first
        | (go_at_call 146; refine (Sub_calls bh bl ah al _ VV.out.2.2.1 VV.out.2.2.2.1 VV.out.1 VV.out.2.1).mono ?_
           rintro e w3 ⟨h, l, rfl, v1, v2, hb⟩
           have qa3 := (hb.block _ (blk_lt QA2.out)).trans QA2.out
           have qb3 := (hb.block _ (blk_lt QB2.out)).trans QB2.out
           have qd3 := (hb.block _ (blk_lt QD2.out)).trans QD2.out
           have QA3 := Aside0.mk qa3
           have QB3 := Aside0.mk qb3
           have QD3 := Aside0.mk qd3
           have H3 := Aside0.mk (below_then H2.out H2.out.size hb)
           have V3 := Aside0.mk (And.intro v1 v2)
           clear v1 v2
           clear a0 b0 d0 d1 d2 d3 d4 d5
           have a0 := (blk_cell qa3 0).trans rfl
           have b0 := (blk_cell qb3 0).trans rfl
           have d0 := (blk_cell qd3 0).trans rfl
           have d1 := (blk_cell qd3 1).trans rfl
           have d2 := (blk_cell qd3 2).trans rfl
           have d3 := (blk_cell qd3 3).trans rfl
           have d4 := (blk_cell qd3 4).trans rfl
           have d5 := (blk_cell qd3 5).trans rfl
           clear hb qa3 qb3 qd3
           skip)
        | (go_at_call 123; refine (C.out.P _ _ _ _ _ _ V3.out.1 V3.out.2 VV.out.2.2.2.2).mono ?_
           rintro e w4 ⟨n, rfl, gn, hb⟩
           have qa4 := (hb.block _ (blk_lt QA3.out)).trans QA3.out
           have qb4 := (hb.block _ (blk_lt QB3.out)).trans QB3.out
           have qd4 := (hb.block _ (blk_lt QD3.out)).trans QD3.out
           have QA4 := Aside0.mk qa4
           have QB4 := Aside0.mk qb4
           have QD4 := Aside0.mk qd4
           have H4 := Aside0.mk (below_then H3.out H3.out.size hb)
           have GN := Aside0.mk gn
           clear gn
           have HE := Aside0.mk (below_then H3.out H3.out.size hb)
           clear a0 b0 d0 d1 d2 d3 d4 d5
           have a0 := (blk_cell qa4 0).trans rfl
           have b0 := (blk_cell qb4 0).trans rfl
           have d0 := (blk_cell qd4 0).trans rfl
           have d1 := (blk_cell qd4 1).trans rfl
           have d2 := (blk_cell qd4 2).trans rfl
           have d3 := (blk_cell qd4 3).trans rfl
           have d4 := (blk_cell qd4 4).trans rfl
           have d5 := (blk_cell qd4 5).trans rfl
           clear hb qa4 qb4 qd4
           skip)
        | fail)
      all_goals
        go_wp2
        refine bodyPost_ret (v := .int .u64 n) (by simp [results, Tryz.results128, go_sem]) rfl ?_
        exact ⟨n, rfl, GN.out, HE.out⟩
    · clear a0 b0 d0 d1 d2 d3 d4 d5
      obtain ⟨W3, hW3⟩ : ∃ W, W = w3.alloc (.cells #[.int .u64 dh, .int .u64 dl] 98) := ⟨_, rfl⟩
      have GQ := Aside0.mk (show w.heap.size ≤ w3.heap.size from H3'.out.size)
      have La := Aside0.mk (blk_lt QA3'.out)
      have Ld := Aside0.mk (blk_lt QD3'.out)
      obtain ⟨q, hq⟩ : ∃ q, q = w3.heap.size := ⟨_, rfl⟩
      rw [← hW3] at QA3 QD3 QS3 H3 ⊢
      rw [← hq] at QS3 GQ La Ld ⊢
      clear hW3 hq
      have GA := Aside0.mk (show W3.drew.heap[_]? = _ from QA3.out)
      have GD := Aside0.mk (show W3.drew.heap[_]? = _ from QD3.out)
      have GS := Aside0.mk (show W3.drew.heap[_]? = _ from QS3.out)
      have GH := Aside0.mk (below_drew H3.out)
      refine wp_region_held_drew (S := fun W => True) (by kernel_rfl) (trivial) (fun hHeld => ?_)
      generalize W3.drew = Wd at *
      refine wpAnyH_ready (rs := [0, 1]) (by kernel_rfl) (by simp) ?_
      refine AllReadyH.cons (o := ?ob12) ?hb12 (fun K hK => ?sb12) ?mb12
      case hb12 => simp only [g1, g2, g3]; rfl
      case sb12 =>
        have y0 := (blk_cell GS.out 0).trans rfl
        have y1 := (blk_cell GS.out 1).trans rfl
        go_simp
        clear y0 y1
        refine hK.out _ _ (trivial) (fun hHeld2 => ?_)
        clear hK K hHeld
        have hHeld := hHeld2
        clear hHeld2
        (try simp only [Act.put, g4, g5, g6])
        refine wpAnyH_ready (rs := [1]) (by kernel_rfl) (by simp) ?_
        refine AllReadyH.cons (o := ?ob13) ?hb13 (fun K hK => ?sb13) ?mb13
        case hb13 => simp only [g1, g2, g3]; rfl
        case sb13 =>
          go_simp
          refine (Of_calls 1 _).mono ?_
          rintro e w68 ⟨rfl, hb⟩
          have F69 := Aside0.mk ((hb.block _ (blk_lt GA.out)).trans GA.out)
          have F70 := Aside0.mk ((hb.block _ (blk_lt GD.out)).trans GD.out)
          have F71 := Aside0.mk ((hb.block _ (blk_lt GS.out)).trans GS.out)
          have HB72 := Aside0.mk (below_then GH.out GH.out.size hb)
          clear hb
          refine hK.out _ _ (trivial) (fun hHeld2 => ?_)
          clear hK K hHeld
          have hHeld := hHeld2
          clear hHeld2
          (try simp only [Act.put, g4, g5, g6])
          refine wpAnyH_ready (rs := [2]) (by kernel_rfl) (by simp) ?_
          refine AllReadyH.cons (o := ?ob14) ?hb14 (fun K hK => ?sb14) ?mb14
          case hb14 => simp only [g1, g2, g3]; rfl
          case sb14 =>
            go_simp
            refine (Sub_calls dh dl 0 1 _ V3.out.1 V3.out.2 u64_0 (by unfold Tn.u64; decide)).mono ?_
            rintro e w73 ⟨eh, el, rfl, v1, v2, hb⟩
            have F74 := Aside0.mk ((hb.block _ (blk_lt F69.out)).trans F69.out)
            have F75 := Aside0.mk ((hb.block _ (blk_lt F70.out)).trans F70.out)
            have F76 := Aside0.mk ((hb.block _ (blk_lt F71.out)).trans F71.out)
            have HB77 := Aside0.mk (below_then HB72.out HB72.out.size hb)
            have V4 := Aside0.mk (And.intro v1 v2)
            clear hb v1 v2
            refine hK.out _ _ (trivial) (fun hHeld2 => ?_)
            clear hK K hHeld
            have hHeld := hHeld2
            clear hHeld2
            (try simp only [Act.put, g4, g5, g6])
            refine wpAnyH_ready (rs := [3]) (by kernel_rfl) (by simp) ?_
            refine AllReadyH.cons (o := ?ob15) ?hb15 (fun K hK => ?sb15) ?mb15
            case hb15 => simp only [g1, g2, g3]; rfl
            case sb15 =>
              have y0 := (blk_cell F76.out 0).trans rfl
              have y1 := (blk_cell F76.out 1).trans rfl
              have fz0 := blk_frozen F76.out 0
              have fz1 := blk_frozen F76.out 1
              go_simp
              clear y0 y1 fz0 fz1
              have F79' := blk_far (blk_far F74.out (p := ⟨q, 0, none⟩) (by have := La.out; show _ ≠ q; omega) (.int .u64 eh)) (p := ⟨q, 1, none⟩) (by have := La.out; show _ ≠ q; omega) (.int .u64 el)
              have F80' := blk_far (blk_far F75.out (p := ⟨q, 0, none⟩) (by have := Ld.out; show _ ≠ q; omega) (.int .u64 eh)) (p := ⟨q, 1, none⟩) (by have := Ld.out; show _ ≠ q; omega) (.int .u64 el)
              have F81' : ((w73.setCell ⟨q, 0, none⟩ (.int .u64 eh)).setCell ⟨q, 1, none⟩ (.int .u64 el)).heap[q]? = some (.cells #[.int .u64 eh, .int .u64 el] 98 (0, 0)) := by have P := blk_set (blk_set F76.out 0 (.int .u64 eh)) 1 (.int .u64 el); simpa using P
              have HB82' := bset (bset HB77.out GQ.out 0 (.int .u64 eh)) GQ.out 1 (.int .u64 el)
              obtain ⟨V78, hV78⟩ : ∃ V, V = ((w73.setCell ⟨q, 0, none⟩ (.int .u64 eh)).setCell ⟨q, 1, none⟩ (.int .u64 el)) := ⟨_, rfl⟩
              rw [← hV78]
              rw [← hV78] at F79'
              have F79 := Aside0.mk F79'
              clear F79'
              rw [← hV78] at F80'
              have F80 := Aside0.mk F80'
              clear F80'
              rw [← hV78] at F81'
              have F81 := Aside0.mk F81'
              clear F81'
              rw [← hV78] at HB82'
              have HB82 := Aside0.mk HB82'
              clear HB82'
              clear hV78
              refine hK.out _ _ (trivial) (fun hHeld2 => ?_)
              clear hK K hHeld
              have hHeld := hHeld2
              clear hHeld2
              (try simp only [Act.put, g4, g5, g6])
              refine wpAnyH_done (by kernel_rfl) ?_ _
              have a0 := (blk_cell F79.out 0).trans rfl
              have d0 := (blk_cell F80.out 0).trans rfl
              have d1 := (blk_cell F80.out 1).trans rfl
              have d2 := (blk_cell F80.out 2).trans rfl
              have d3 := (blk_cell F80.out 3).trans rfl
              have d4 := (blk_cell F80.out 4).trans rfl
              have d5 := (blk_cell F80.out 5).trans rfl
              have y0 := (blk_cell F81.out 0).trans rfl
              have y1 := (blk_cell F81.out 1).trans rfl
              go_wp2_with (first
                | (go_at_call 123; refine (C.out.P _ _ _ _ _ _ V4.out.1 V4.out.2 VV.out.2.2.2.2).mono ?_
                   rintro e w9 ⟨n, rfl, gn, hb⟩
                   have GN := Aside0.mk gn
                   have HE := Aside0.mk (below_then HB82.out HB82.out.size hb)
                   clear gn hb)
                | fail)
              refine bodyPost_ret (v := .int .u64 n) (by simp [results, Tryz.results128, go_sem]) rfl ?_
              exact ⟨n, rfl, GN.out, HE.out⟩
            exact AllReadyH.nil
          exact AllReadyH.nil
        exact AllReadyH.nil
      refine AllReadyH.cons (o := ?ob16) ?hb16 (fun K hK => ?sb16) ?mb16
      case hb16 => simp only [g1, g2, g3]; rfl
      case sb16 =>
        go_simp
        refine (Of_calls 1 _).mono ?_
        rintro e w83 ⟨rfl, hb⟩
        have F84 := Aside0.mk ((hb.block _ (blk_lt GA.out)).trans GA.out)
        have F85 := Aside0.mk ((hb.block _ (blk_lt GD.out)).trans GD.out)
        have F86 := Aside0.mk ((hb.block _ (blk_lt GS.out)).trans GS.out)
        have HB87 := Aside0.mk (below_then GH.out GH.out.size hb)
        clear hb
        refine hK.out _ _ (trivial) (fun hHeld2 => ?_)
        clear hK K hHeld
        have hHeld := hHeld2
        clear hHeld2
        (try simp only [Act.put, g4, g5, g6])
        refine wpAnyH_ready (rs := [0]) (by kernel_rfl) (by simp) ?_
        refine AllReadyH.cons (o := ?ob17) ?hb17 (fun K hK => ?sb17) ?mb17
        case hb17 => simp only [g1, g2, g3]; rfl
        case sb17 =>
          have y0 := (blk_cell F86.out 0).trans rfl
          have y1 := (blk_cell F86.out 1).trans rfl
          go_simp
          clear y0 y1
          refine hK.out _ _ (trivial) (fun hHeld2 => ?_)
          clear hK K hHeld
          have hHeld := hHeld2
          clear hHeld2
          (try simp only [Act.put, g4, g5, g6])
          refine wpAnyH_ready (rs := [2]) (by kernel_rfl) (by simp) ?_
          refine AllReadyH.cons (o := ?ob18) ?hb18 (fun K hK => ?sb18) ?mb18
          case hb18 => simp only [g1, g2, g3]; rfl
          case sb18 =>
            go_simp
            refine (Sub_calls dh dl 0 1 _ V3.out.1 V3.out.2 u64_0 (by unfold Tn.u64; decide)).mono ?_
            rintro e w88 ⟨eh, el, rfl, v1, v2, hb⟩
            have F89 := Aside0.mk ((hb.block _ (blk_lt F84.out)).trans F84.out)
            have F90 := Aside0.mk ((hb.block _ (blk_lt F85.out)).trans F85.out)
            have F91 := Aside0.mk ((hb.block _ (blk_lt F86.out)).trans F86.out)
            have HB92 := Aside0.mk (below_then HB87.out HB87.out.size hb)
            have V4 := Aside0.mk (And.intro v1 v2)
            clear hb v1 v2
            refine hK.out _ _ (trivial) (fun hHeld2 => ?_)
            clear hK K hHeld
            have hHeld := hHeld2
            clear hHeld2
            (try simp only [Act.put, g4, g5, g6])
            refine wpAnyH_ready (rs := [3]) (by kernel_rfl) (by simp) ?_
            refine AllReadyH.cons (o := ?ob19) ?hb19 (fun K hK => ?sb19) ?mb19
            case hb19 => simp only [g1, g2, g3]; rfl
            case sb19 =>
              have y0 := (blk_cell F91.out 0).trans rfl
              have y1 := (blk_cell F91.out 1).trans rfl
              have fz0 := blk_frozen F91.out 0
              have fz1 := blk_frozen F91.out 1
              go_simp
              clear y0 y1 fz0 fz1
              have F94' := blk_far (blk_far F89.out (p := ⟨q, 0, none⟩) (by have := La.out; show _ ≠ q; omega) (.int .u64 eh)) (p := ⟨q, 1, none⟩) (by have := La.out; show _ ≠ q; omega) (.int .u64 el)
              have F95' := blk_far (blk_far F90.out (p := ⟨q, 0, none⟩) (by have := Ld.out; show _ ≠ q; omega) (.int .u64 eh)) (p := ⟨q, 1, none⟩) (by have := Ld.out; show _ ≠ q; omega) (.int .u64 el)
              have F96' : ((w88.setCell ⟨q, 0, none⟩ (.int .u64 eh)).setCell ⟨q, 1, none⟩ (.int .u64 el)).heap[q]? = some (.cells #[.int .u64 eh, .int .u64 el] 98 (0, 0)) := by have P := blk_set (blk_set F91.out 0 (.int .u64 eh)) 1 (.int .u64 el); simpa using P
              have HB97' := bset (bset HB92.out GQ.out 0 (.int .u64 eh)) GQ.out 1 (.int .u64 el)
              obtain ⟨V93, hV93⟩ : ∃ V, V = ((w88.setCell ⟨q, 0, none⟩ (.int .u64 eh)).setCell ⟨q, 1, none⟩ (.int .u64 el)) := ⟨_, rfl⟩
              rw [← hV93]
              rw [← hV93] at F94'
              have F94 := Aside0.mk F94'
              clear F94'
              rw [← hV93] at F95'
              have F95 := Aside0.mk F95'
              clear F95'
              rw [← hV93] at F96'
              have F96 := Aside0.mk F96'
              clear F96'
              rw [← hV93] at HB97'
              have HB97 := Aside0.mk HB97'
              clear HB97'
              clear hV93
              refine hK.out _ _ (trivial) (fun hHeld2 => ?_)
              clear hK K hHeld
              have hHeld := hHeld2
              clear hHeld2
              (try simp only [Act.put, g4, g5, g6])
              refine wpAnyH_done (by kernel_rfl) ?_ _
              have a0 := (blk_cell F94.out 0).trans rfl
              have d0 := (blk_cell F95.out 0).trans rfl
              have d1 := (blk_cell F95.out 1).trans rfl
              have d2 := (blk_cell F95.out 2).trans rfl
              have d3 := (blk_cell F95.out 3).trans rfl
              have d4 := (blk_cell F95.out 4).trans rfl
              have d5 := (blk_cell F95.out 5).trans rfl
              have y0 := (blk_cell F96.out 0).trans rfl
              have y1 := (blk_cell F96.out 1).trans rfl
              go_wp2_with (first
                | (go_at_call 123; refine (C.out.P _ _ _ _ _ _ V4.out.1 V4.out.2 VV.out.2.2.2.2).mono ?_
                   rintro e w9 ⟨n, rfl, gn, hb⟩
                   have GN := Aside0.mk gn
                   have HE := Aside0.mk (below_then HB97.out HB97.out.size hb)
                   clear gn hb)
                | fail)
              refine bodyPost_ret (v := .int .u64 n) (by simp [results, Tryz.results128, go_sem]) rfl ?_
              exact ⟨n, rfl, GN.out, HE.out⟩
            exact AllReadyH.nil
          exact AllReadyH.nil
        exact AllReadyH.nil
      exact AllReadyH.nil
    · refine bodyPost_ret (v := .int .u64 n) (by simp [results, Tryz.results128, go_sem]) rfl ?_
      exact ⟨n, rfl, GN.out, HE.out⟩
end Go.Proofs.YticonaahlplbjaaGreatDoor.Tn
