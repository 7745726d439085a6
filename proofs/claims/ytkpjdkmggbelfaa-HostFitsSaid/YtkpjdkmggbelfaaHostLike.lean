/- Where a queue and the reference's hold the same, the law's comparison says so. -/
import Derived.Test.YtkpjdkmggbelfaaHostView
namespace Go.Proofs.Ytkpjdkmggbelfaa.Host
open Go.RowKit Go.Proofs.YtkpjdkmggbelfaaW.PrintWords Go.Proofs.YtkpjdkmggbelfaaW.PrintLast Go.Proofs.YtkpjdkmggbelfaaW.PrintMore Go.Proofs.Ytkpjdkmggbelfaa.Mem Go.Proofs.Ytkpjdkmggbelfaa.PHostPlays
set_option linter.unusedVariables false
set_option linter.unusedSimpArgs false
theorem slice70 (W : World) (A : Option Addr) (n c na : Nat) (h : na ≤ n) : (Instr.sliceAt 70 (.slice A n c) (some (.int .i64 (na : Int))) none none).run Try.prog W = .ok (.slice (if c = na then A else A.map (·.add (na * 2))) (n - na) (c - na)) W := by
  have hu : Try.prog.underlying 70 = some (.slice (Try.prog.elem 70)) := by kernel_rfl
  have hs : ∀ w, (sizeOf (Try.prog.elem 70)).run Try.prog w = .ok 2 w := fun _ => by kernel_rfl
  rw [run_sliceAt_slice _ _ _ _ _ _ hu, run_slice_l _ _ _ _ _ hu _ _ (by omega) (by omega), hs]
  simp [sliced, Result.andThen]
theorem slice71 (W : World) (A : Option Addr) (n c na : Nat) (h : na ≤ n) : (Instr.sliceAt 71 (.slice A n c) (some (.int .i64 (na : Int))) none none).run Try.prog W = .ok (.slice (if c = na then A else A.map (·.add (na * 1))) (n - na) (c - na)) W := by
  have hu : Try.prog.underlying 71 = some (.slice (Try.prog.elem 71)) := by kernel_rfl
  have hs : ∀ w, (sizeOf (Try.prog.elem 71)).run Try.prog w = .ok 1 w := fun _ => by kernel_rfl
  rw [run_sliceAt_slice _ _ _ _ _ _ hu, run_slice_l _ _ _ _ _ hu _ _ (by omega) (by omega), hs]
  simp [sliced, Result.andThen]
def rdA (l : List S109) (i : Nat) : S109 := l.getD i z109
theorem at_cvA {w : World} {A : Option Addr} {l : List S109} (h : Kd.C k112 w A l.length (l.map cvA)) (i : Nat) (hi : i < l.length) : ∃ ad A1 c1, A = some ad ∧ w.cell? (ad.add (i * 2)) = some (.bool (rd_T109 l (i : Int)).f0) ∧ w.cell? ⟨(ad.add (i * 2)).block, (ad.add (i * 2)).off + 1, none⟩ = some (.slice A1 (rd_T109 l (i : Int)).f1.length c1) ∧ kw.C w A1 (rd_T109 l (i : Int)).f1.length (rd_T109 l (i : Int)).f1 := by
  obtain ⟨ad, A1, c1, e, x0, x1, m, q⟩ := at_T112 h (i : Int) (by omega) (by omega)
  have er : rd_T112 (l.map cvA) (i : Int) = cvA (rd_T109 l (i : Int)) := by
    simp [rd_T112, rd_T109, List.getD_eq_getElem?_getD, List.getElem?_eq_getElem hi]
  rw [er] at x0 x1 m q
  exact ⟨ad, A1, c1, e, by simpa [cvA] using x0, by simpa [cvA] using x1, q⟩
theorem at_cvC {w : World} {A : Option Addr} {l : List S156} (h : Kd.C k164 w A l.length (l.map cvC)) (i : Nat) (hi : i < l.length) : ∃ ad A1 c1, A = some ad ∧ w.cell? (ad.add (i * 2)) = some (.string (rd_T156 l (i : Int)).f0) ∧ w.cell? ⟨(ad.add (i * 2)).block, (ad.add (i * 2)).off + 1, none⟩ = some (.slice A1 (rd_T156 l (i : Int)).f1.length c1) ∧ kw.C w A1 (rd_T156 l (i : Int)).f1.length (rd_T156 l (i : Int)).f1 := by
  obtain ⟨ad, A1, c1, e, x0, x1, m, q⟩ := at_T164 h (i : Int) (by omega) (by omega)
  have er : rd_T164 (l.map cvC) (i : Int) = cvC (rd_T156 l (i : Int)) := by
    simp [rd_T164, rd_T156, List.getD_eq_getElem?_getD, List.getElem?_eq_getElem hi]
  rw [er] at x0 x1 m q
  exact ⟨ad, A1, c1, e, by simpa [cvC] using x0, by simpa [cvC] using x1, q⟩
/-- The two agree. -/
structure Agree (an : List S109) (gs : List Bool) (cs : List S156) (AN : List S112) (GS : List Bool) (CS : List S164) (na ng : Nat) : Prop where
  a : AN.drop na = an.map cvA
  g : GS.drop ng = gs
  c : CS = cs.map cvC
  la : na ≤ AN.length
  lg : ng ≤ GS.length
/-- Not too much of all. -/
structure Bound (an : List S109) (gs : List Bool) (cs : List S156) : Prop where
  la : an.length ≤ 4398046510976
  lg : gs.length ≤ 140737488351232
  lc : cs.length ≤ 1500000000000
  xa : ∀ x ∈ an, x.f1.length ≤ 17592186043904
  xc : ∀ x ∈ cs, x.f1.length ≤ 17592186043904
set_option maxRecDepth 100000 in
set_option maxHeartbeats 8000000 in
theorem like_calls (base : Nat) (w : World) (g g2 : Nat) (tag : Nat → Nat) (an : List S109) (gs : List Bool) (cs : List S156) (va vg vc : Value) (h : Qs base w g tag an gs cs va vg vc) (A0 A1 A2 : Option Addr) (c0 c1 c2 : Nat) (AN : List S112) (GS : List Bool) (CS : List S164) (na ng : Nat)
    (hv : RView w g2 A0 c0 AN A1 c1 GS A2 c2 CS (na : Int) (ng : Int)) (ag : Agree an gs cs AN GS CS na ng) (bd : Bound an gs cs) :
    Calls Try.prog 30 #[.pointer (some ⟨g, 0, none⟩), .pointer (some ⟨g2, 0, none⟩)] w fun e w' => e = .returned (.bool true) ∧ Below w.heap.size w w' := by
  have la : an.length = AN.length - na := by have := congrArg List.length ag.a; simpa using this.symm
  have lg : gs.length = GS.length - ng := by have := congrArg List.length ag.g; simpa using this.symm
  have lc : CS.length = cs.length := by have := congrArg List.length ag.c; simpa using this
  have CL := Aside0.mk (Left_calls base w g tag an gs cs va vg vc h bd.la bd.lg bd.xa)
  have CC := Aside0.mk (fun (W : World) (hW : Below w.heap.size w W) => Calls_calls base W g tag an gs cs va vg vc (h.below hW) bd.lc bd.xc)
  obtain ⟨B0, hB0⟩ : ∃ B0, B0 = if c0 = na then A0 else A0.map (·.add (na * 2)) := ⟨_, rfl⟩
  obtain ⟨B1, hB1⟩ : ∃ B1, B1 = if c1 = ng then A1 else A1.map (·.add (ng * 1)) := ⟨_, rfl⟩
  have RA := Aside0.mk (show k112.C w B0 an.length (an.map cvA) from by
    have := Kd.C_drop hv.ra ag.la hv.la
    rw [List.length_drop, ag.a, ← la] at this
    rw [hB0]
    exact this)
  have RG := Aside0.mk (show Kd.bool.C w B1 gs.length gs from by
    have := Kd.C_drop hv.rg ag.lg hv.lg
    rw [List.length_drop, ag.g, ← lg] at this
    rw [hB1]
    exact this)
  have RC := Aside0.mk (show k164.C w A2 cs.length (cs.map cvC) from by
    have := hv.rc
    rw [lc, ag.c] at this
    exact this)
  have s1 : ∀ W, (Instr.sliceAt 70 (.slice A0 AN.length c0) (some (.int .i64 (na : Int))) none none).run Try.prog W = .ok (.slice B0 an.length (c0 - na)) W := fun W => by rw [hB0, la]; exact slice70 W A0 AN.length c0 na ag.la
  have s2 : ∀ W, (Instr.sliceAt 71 (.slice A1 GS.length c1) (some (.int .i64 (ng : Int))) none none).run Try.prog W = .ok (.slice B1 gs.length (c1 - ng)) W := fun W => by rw [hB1, lg]; exact slice71 W A1 GS.length c1 ng ag.lg
  have BX := Aside0.mk (fun (W : World) (hW : Below w.heap.size w W) => (show W.cell? ⟨g2, 0, none⟩ = some (.slice A0 AN.length c0) ∧ W.cell? ⟨g2, 1, none⟩ = some (.slice A1 GS.length c1) ∧ W.cell? ⟨g2, 2, none⟩ = some (.int .i64 (na : Int)) ∧ W.cell? ⟨g2, 3, none⟩ = some (.int .i64 (ng : Int)) ∧ W.cell? ⟨g2, 4, none⟩ = some (.slice A2 cs.length c2) from by
    have hb := (hv.below hW).box
    rw [lc] at hb
    exact ⟨(blk_cell hb 0).trans rfl, (blk_cell hb 1).trans rfl, (blk_cell hb 2).trans rfl, (blk_cell hb 3).trans rfl, (blk_cell hb 4).trans rfl⟩))
  have BD := Aside0.mk bd
  have LT := Aside0.mk (blk_lt hv.box)
  clear h hv ag bd la lg lc hB0 hB1
  go_enter Try.func30, Try.ntmps30
  go_wp2_with (first
    | (go_at_call 31
       (with_reducible refine CL.out.mono ?_)
       rintro e w1 ⟨Al, cl, Ag, cg, rfl, hr, hr2, hn, hn2, hb⟩
       have R1 := Aside0.mk (Kd.F_now hr.k109o.F.2.2)
       have R2 := Aside0.mk (Kd.F_now hr2.F.2.2)
       have HB1 := Aside0.mk hb
       have C2 := Aside0.mk (CC.out w1 hb)
       clear hr hr2 hn hn2 hb)
    | (go_at_call 32
       (with_reducible refine C2.out.mono ?_)
       rintro e w2 ⟨Ac, cc, rfl, hr, hn, hb⟩
       have R3 := Aside0.mk (Kd.F_now hr.k156o.F.2.2)
       have HB2 := Aside0.mk hb
       clear hr hn hb)
    | fail)
  have HB2' := Aside0.mk ((below_then HB1.out HB1.out.size HB2.out).alloc (below_then HB1.out HB1.out.size HB2.out).size (.cells #[.slice Al an.length cl, .slice Ag gs.length cg] 77))
  have KL := Aside0.mk (heap_alloc_new w2 (.cells #[.slice Al an.length cl, .slice Ag gs.length cg] 77))
  have Q1 := Aside0.mk (Kd.C_below R1.out (HB2.out.alloc HB2.out.size (.cells #[.slice Al an.length cl, .slice Ag gs.length cg] 77)))
  have Q2 := Aside0.mk (Kd.C_below R2.out (HB2.out.alloc HB2.out.size (.cells #[.slice Al an.length cl, .slice Ag gs.length cg] 77)))
  have Q3 := Aside0.mk (Kd.C_below R3.out (below_alloc (Below.refl w2.heap.size w2) (.cells #[.slice Al an.length cl, .slice Ag gs.length cg] 77)))
  obtain ⟨W0, hW0⟩ : ∃ W0, W0 = w2.alloc (.cells #[.slice Al an.length cl, .slice Ag gs.length cg] 77) := ⟨_, rfl⟩
  obtain ⟨bl, hbl⟩ : ∃ bl, bl = w2.heap.size := ⟨_, rfl⟩
  rw [← hW0] at HB2' KL Q1 Q2 Q3
  rw [← hbl] at KL
  rw [← hW0, ← hbl]
  clear hW0 hbl HB1 HB2 R1 R2 R3 C2 CL CC
  clear w1 w2
  obtain ⟨y0, y1, y2, y3, y4⟩ := BX.out W0 HB2'.out
  have l0 : W0.cell? ⟨bl, 0, none⟩ = some (.slice Al an.length cl) := (blk_cell KL.out 0).trans rfl
  have l1 : W0.cell? ⟨bl, 1, none⟩ = some (.slice Ag gs.length cg) := (blk_cell KL.out 1).trans rfl
  go_quiet (fail)
  go_wp2
  go_loopg [64] an.length (fun d v64 w' => ∃ i : Nat, v64 = .int .i64 (i : Int) ∧ Aside0 (i + d = an.length) ∧ Aside0 (Below W0.heap.size W0 w'))
  case atStart => exact ⟨0, rfl, ⟨by omega⟩, ⟨pw_below_drewN (Below.refl _ _) _⟩⟩
  case round =>
    obtain ⟨i, rfl, HD, HF⟩ := hrel
    clear y0 y1 y2 y3 y4 l0 l1
    have hd := HD.out
    have hlen := BD.out.la
    cases gk with
    | zero =>
      have e1 : decide (i < an.length) = false := decide_eq_false (by omega)
      clear hd hlen
      have l1 : wr.cell? ⟨bl, 1, none⟩ = some (.slice Ag gs.length cg) := (blk_cell ((HF.out.block _ (blk_lt KL.out)).trans KL.out) 1).trans rfl
      go_wp2
      have HF1 := HF
      clear l1 HF HD e1
      go_loopg [92] gs.length (fun d v92 w' => ∃ i : Nat, v92 = .int .i64 (i : Int) ∧ Aside0 (i + d = gs.length) ∧ Aside0 (Below W0.heap.size W0 w'))
      case atStart => exact ⟨0, rfl, ⟨by omega⟩, HF1⟩
      case round =>
        obtain ⟨i, rfl, HD, HF⟩ := hrel
        clear HF1
        have hd := HD.out
        have hlen := BD.out.lg
        cases gk with
        | zero =>
          have e1 : decide (i < gs.length) = false := decide_eq_false (by omega)
          clear hd hlen
          go_wp2
          have HF1 := HF
          clear HF HD e1
          go_loopg [106] cs.length (fun d v106 w' => ∃ i : Nat, v106 = .int .i64 (i : Int) ∧ Aside0 (i + d = cs.length) ∧ Aside0 (Below W0.heap.size W0 w'))
          case atStart => exact ⟨0, rfl, ⟨by omega⟩, HF1⟩
          case round =>
            obtain ⟨i, rfl, HD, HF⟩ := hrel
            clear HF1
            have hd := HD.out
            have hlen := BD.out.lc
            cases gk with
            | zero =>
              have e1 : decide (i < cs.length) = false := decide_eq_false (by omega)
              clear hd hlen
              go_wp2
              go_ret
              exact ⟨rfl, below_then HB2'.out HB2'.out.size HF.out⟩
            | succ d =>
              have hi : i < cs.length := by omega
              have e1 : decide (i < cs.length) = true := decide_eq_true hi
              have hiI : (i : Int) ≤ 140737488351232 := by omega
              have hw1 : wrap64 ((i : Int) + 1) = (i : Int) + 1 := by unfold wrap64; omega
              obtain ⟨ad, A5, c5, eA, x0, x1, m5, q5⟩ := at_T156 (Kd.C_below Q3.out HF.out) (i : Int) (by omega) (by omega)
              subst eA
              have hm := BD.out.xc (rd_T156 cs (i : Int)) (by rw [show rd_T156 cs (i : Int) = cs[i] from getD_at hi]; exact List.getElem_mem hi)
              obtain ⟨bd, A6, c6, eB, z0, z1, q6⟩ := at_cvC (Kd.C_below (Kd.C_below RC.out (below_then HB2'.out HB2'.out.size HF.out)) (below_alloc (Below.refl _ _) (.cells #[.string (rd_T156 cs (i : Int)).f0, .slice A5 (rd_T156 cs (i : Int)).f1.length c5] 156))) i hi
              subst eB
              obtain ⟨X, hX⟩ : ∃ X, X = rd_T156 cs (i : Int) := ⟨_, rfl⟩
              rw [← hX] at x0 x1 z0 z1 q5 q6 hm
              clear hX m5
              simp only [Int.toNat_natCast] at x0 x1
              obtain ⟨y0, y1, y2, y3, y4⟩ := BX.out (wr.alloc (.cells #[.string X.f0, .slice A5 X.f1.length c5] 156)) ((below_then HB2'.out HB2'.out.size HF.out).alloc (below_then HB2'.out HB2'.out.size HF.out).size _)
              clear y0 y1 y2 y3
              have WC := Aside0.mk (fun (W : World) (hW : Below (wr.alloc (.cells #[.string X.f0, .slice A5 X.f1.length c5] 156)).heap.size (wr.alloc (.cells #[.string X.f0, .slice A5 X.f1.length c5] 156)) W) => words_same W A5 A6 c5 c6 X.f1 hm (Kd.C_below q5 ((below_alloc (Below.refl _ _) _).trans (hW.mono (by rw [World.size_alloc]; omega)))) (Kd.C_below q6 hW))
              clear hd hlen hm q5 q6
              go_wp2
              go_quiet ((go_at_call 68; exact Calls.quiet_of_same (WC.out _ (pw_below_drewN (Below.refl _ _) _))))
              go_wp2
              go_roundg d
              case measure => omega
              case rel => exact ⟨i + 1, by push_cast; rfl, ⟨by have := HD.out; omega⟩, ⟨below_then HF.out HF.out.size (pw_below_drewN (below_alloc (Below.refl _ _) _) _)⟩⟩
        | succ d =>
          have hi : i < gs.length := by omega
          have e1 : decide (i < gs.length) = true := decide_eq_true hi
          have hiI : (i : Int) ≤ 140737488351232 := by omega
          have hw1 : wrap64 ((i : Int) + 1) = (i : Int) + 1 := by unfold wrap64; omega
          obtain ⟨ad, eA, x0⟩ := ReadsOf.at_ (Kd.reads_of_C (enc := Value.bool) (d := false) (h1 := fun _ => rfl) (Kd.C_below Q2.out HF.out)) (i : Int) (by omega) (by omega)
          obtain ⟨bd, eB, z0⟩ := ReadsOf.at_ (Kd.reads_of_C (enc := Value.bool) (d := false) (h1 := fun _ => rfl) (Kd.C_below RG.out (below_then HB2'.out HB2'.out.size HF.out))) (i : Int) (by omega) (by omega)
          subst eA eB
          rw [Int.toNat_natCast] at x0 z0
          obtain ⟨X, hX⟩ : ∃ X, X = rdOf false gs (i : Int) := ⟨_, rfl⟩
          rw [← hX] at x0 z0
          clear hX hd hlen
          go_wp2
          go_roundg d
          case measure => omega
          case rel => exact ⟨i + 1, by push_cast; rfl, ⟨by have := HD.out; omega⟩, HF⟩
    | succ d =>
      have hi : i < an.length := by omega
      have e1 : decide (i < an.length) = true := decide_eq_true hi
      have hiI : (i : Int) ≤ 140737488351232 := by omega
      have hw1 : wrap64 ((i : Int) + 1) = (i : Int) + 1 := by unfold wrap64; omega
      obtain ⟨ad, A5, c5, eA, x0, x1, m5, q5⟩ := at_T109 (Kd.C_below Q1.out HF.out) (i : Int) (by omega) (by omega)
      subst eA
      have hm := BD.out.xa (rd_T109 an (i : Int)) (by rw [show rd_T109 an (i : Int) = an[i] from getD_at hi]; exact List.getElem_mem hi)
      obtain ⟨bd, A6, c6, eB, z0, z1, q6⟩ := at_cvA (Kd.C_below (Kd.C_below RA.out (below_then HB2'.out HB2'.out.size HF.out)) (below_alloc (Below.refl _ _) (.cells #[.bool (rd_T109 an (i : Int)).f0, .slice A5 (rd_T109 an (i : Int)).f1.length c5] 109))) i hi
      subst eB
      obtain ⟨X, hX⟩ : ∃ X, X = rd_T109 an (i : Int) := ⟨_, rfl⟩
      rw [← hX] at x0 x1 z0 z1 q5 q6 hm
      clear hX m5
      simp only [Int.toNat_natCast] at x0 x1
      have WC := Aside0.mk (fun (W : World) (hW : Below (wr.alloc (.cells #[.bool X.f0, .slice A5 X.f1.length c5] 109)).heap.size (wr.alloc (.cells #[.bool X.f0, .slice A5 X.f1.length c5] 109)) W) => words_same W A5 A6 c5 c6 X.f1 hm (Kd.C_below q5 ((below_alloc (Below.refl _ _) _).trans (hW.mono (by rw [World.size_alloc]; omega)))) (Kd.C_below q6 hW))
      clear hd hlen hm q5 q6
      go_wp2
      go_quiet ((go_at_call 68; exact Calls.quiet_of_same (WC.out _ (pw_below_drewN (Below.refl _ _) _))))
      go_wp2
      go_roundg d
      case measure => omega
      case rel => exact ⟨i + 1, by push_cast; rfl, ⟨by have := HD.out; omega⟩, ⟨below_then HF.out HF.out.size (pw_below_drewN (below_alloc (Below.refl _ _) _) _)⟩⟩
end Go.Proofs.Ytkpjdkmggbelfaa.Host
