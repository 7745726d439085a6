/- The target's close. -/
import Derived.Test.YticonaahlplbjaaGreatDoorTnRound
namespace Go.Proofs.YticonaahlplbjaaGreatDoor.Tn
open Go.RowKit Go.Proofs.YticonaahlplbjaaGreatDoor.PTopNans Go.Proofs.YticonaahlplbjaaGreatDoorW.PrintWords Go.Proofs.YticonaahlplbjaaGreatDoorW.PrintLast Go.Proofs.YticonaahlplbjaaGreatDoorW.PrintMore
set_option linter.unusedVariables false
set_option linter.unusedSimpArgs false
set_option maxRecDepth 100000 in
set_option maxHeartbeats 4000000 in
theorem close_calls (g : Nat) (hi lo ex wd f low high : Int) (mo neg : Bool) (w : World) (F : w.heap[g]? = some (TB hi lo ex mo wd f low high neg)) (u1 : u64 hi) (u2 : u64 lo) (i1 : i64r ex) (f0 : 0 ≤ f)
    (ZC : ∀ b W, Calls Tryz.prog 92 #[.int .i64 wd, .bool b] W (GoodP W wd)) (IC : ∀ b W, Calls Tryz.prog 93 #[.int .i64 wd, .bool b] W (GoodP W wd))
    (CC : ∀ b ex s W, ex ≤ high → -9223372036854775808 ≤ ex → u64 s → Calls Tryz.prog 156 #[.int .i64 wd, .agg #[.bool b, .int .i64 1, .int .i64 ex, .int .u64 s]] W fun e w' => ∃ n er, e = .returned (.tuple #[.int .u64 n, .int .i64 er]) ∧ Good wd n ∧ Below W.heap.size W w') :
    Calls Tryz.prog 143 #[.pointer (some ⟨g, 0, none⟩)] w fun e W => ∃ n, e = .returned (.int .u64 n) ∧ Good wd n ∧ OG g w W := by
  have FF := Aside0.mk F
  have HH := Aside0.mk (og_refl g w)
  have I1 := Aside0.mk i1
  have ZC := Aside0.mk ZC
  have IC := Aside0.mk IC
  have CC := Aside0.mk CC
  clear F i1
  go_enter Tryz.func143, Tryz.ntmps143
  go_wp2
  go_cut [25] from 5 (fun s wc => ∃ b, s = .bool b ∧ wc.heap[g]? = some (TB hi lo ex mo wd f low high neg) ∧ OG g w wc)
  case first =>
    by_cases h : hi = 0
    · have d0 : (hi == 0) = true := beq_iff_eq.2 h
      clear h
      have FD39 := Aside0.mk (show w.drew.heap[g]? = _ from FF.out)
      have HD39 := Aside0.mk (og_drew HH.out)
      refine wp_region_held_drew (S := fun W => W.cell? ⟨g, 0, none⟩ = some (.int .u64 hi) ∧ W.cell? ⟨g, 1, none⟩ = some (.int .u64 lo) ∧ W.cell? ⟨g, 5, none⟩ = some (.int .i64 f)) (by kernel_rfl) (⟨(blk_cell FD39.out 0).trans rfl, (blk_cell FD39.out 1).trans rfl, (blk_cell FD39.out 5).trans rfl⟩) (fun hHeld => ?_)
      generalize w.drew = Wd39 at *
      refine tk (i := 0) ?_
      (try simp only [Act.put, g4, g5, g6])
      refine tk (i := 1) ?_
      (try simp only [Act.put, g4, g5, g6])
      refine tk (i := 2) ?_
      (try simp only [Act.put, g4, g5, g6])
      refine tk (i := 3) ?_
      (try simp only [Act.put, g4, g5, g6])
      refine tk (i := 4) ?_
      (try simp only [Act.put, g4, g5, g6])
      refine tk (i := 5) ?_
      (try simp only [Act.put, g4, g5, g6])
      refine tk (i := 6) ?_
      (try simp only [Act.put, g4, g5, g6])
      refine tk (i := 7) ?_
      (try simp only [Act.put, g4, g5, g6])
      refine tk (i := 8) ?_
      (try simp only [Act.put, g4, g5, g6])
      refine tk (i := 9) ?_
      (try simp only [Act.put, g4, g5, g6])
      refine tk (i := 10) ?_
      (try simp only [Act.put, g4, g5, g6])
      refine tk (i := 11) ?_
      (try simp only [Act.put, g4, g5, g6])
      refine tk (i := 12) ?_
      (try simp only [Act.put, g4, g5, g6])
      refine tk (i := 13) ?_
      (try simp only [Act.put, g4, g5, g6])
      refine tk (i := 14) ?_
      (try simp only [Act.put, g4, g5, g6])
      refine tk (i := 15) ?_
      (try simp only [Act.put, g4, g5, g6])
      refine tk (i := 16) ?_
      (try simp only [Act.put, g4, g5, g6])
      refine tk (i := 17) ?_
      (try simp only [Act.put, g4, g5, g6])
      refine tk (i := 18) ?_
      (try simp only [Act.put, g4, g5, g6])
      refine tk (i := 19) ?_
      (try simp only [Act.put, g4, g5, g6])
      refine tk (i := 20) ?_
      (try simp only [Act.put, g4, g5, g6])
      refine wpAnyH_done (by kernel_rfl) ?_ _
      go_wp2
      go_meet
      case rel => exact ⟨_, rfl, FD39.out, HD39.out⟩
    · have d0 : (hi == 0) = false := beq_eq_false_iff_ne.2 h
      clear h
      have FD40 := Aside0.mk (show w.drew.heap[g]? = _ from FF.out)
      have HD40 := Aside0.mk (og_drew HH.out)
      refine wp_region_held_drew (S := fun W => W.cell? ⟨g, 0, none⟩ = some (.int .u64 hi) ∧ W.cell? ⟨g, 1, none⟩ = some (.int .u64 lo) ∧ W.cell? ⟨g, 5, none⟩ = some (.int .i64 f)) (by kernel_rfl) (⟨(blk_cell FD40.out 0).trans rfl, (blk_cell FD40.out 1).trans rfl, (blk_cell FD40.out 5).trans rfl⟩) (fun hHeld => ?_)
      generalize w.drew = Wd40 at *
      refine tk (i := 0) ?_
      (try simp only [Act.put, g4, g5, g6])
      refine tk (i := 1) ?_
      (try simp only [Act.put, g4, g5, g6])
      refine tk (i := 2) ?_
      (try simp only [Act.put, g4, g5, g6])
      refine tk (i := 3) ?_
      (try simp only [Act.put, g4, g5, g6])
      refine tk (i := 4) ?_
      (try simp only [Act.put, g4, g5, g6])
      refine tk (i := 5) ?_
      (try simp only [Act.put, g4, g5, g6])
      refine tk (i := 6) ?_
      (try simp only [Act.put, g4, g5, g6])
      refine tk (i := 7) ?_
      (try simp only [Act.put, g4, g5, g6])
      refine sk (i := 8) ?_
      (try simp only [Act.put, g4, g5, g6])
      refine sk (i := 9) ?_
      (try simp only [Act.put, g4, g5, g6])
      refine sk (i := 10) ?_
      (try simp only [Act.put, g4, g5, g6])
      refine sk (i := 11) ?_
      (try simp only [Act.put, g4, g5, g6])
      refine sk (i := 12) ?_
      (try simp only [Act.put, g4, g5, g6])
      refine sk (i := 13) ?_
      (try simp only [Act.put, g4, g5, g6])
      refine sk (i := 14) ?_
      (try simp only [Act.put, g4, g5, g6])
      refine sk (i := 15) ?_
      (try simp only [Act.put, g4, g5, g6])
      refine sk (i := 16) ?_
      (try simp only [Act.put, g4, g5, g6])
      refine sk (i := 17) ?_
      (try simp only [Act.put, g4, g5, g6])
      refine sk (i := 18) ?_
      (try simp only [Act.put, g4, g5, g6])
      refine sk (i := 19) ?_
      (try simp only [Act.put, g4, g5, g6])
      refine tk (i := 20) ?_
      (try simp only [Act.put, g4, g5, g6])
      refine wpAnyH_done (by kernel_rfl) ?_ _
      go_wp2
      go_meet
      case rel => exact ⟨_, rfl, FD40.out, HD40.out⟩
  obtain ⟨b, rfl, F1, H1⟩ := hcut
  have F1 := Aside0.mk F1
  have H1 := Aside0.mk H1
  clear FF HH
  go_upto_if 25 with (fail)
  go_cut [2] from 3 (fun s2 wc => ∃ hi lo ex mo, Tn.u64 hi ∧ Tn.u64 lo ∧ i64r ex ∧ wc.heap[g]? = some (TB hi lo ex mo wd f low high neg) ∧ OG g w wc)
  case first =>
    cases b
    · go_wp2
      go_meet
      case rel => exact ⟨hi, lo, ex, mo, u1, u2, I1.out, F1.out, H1.out⟩
    · go_wp2
      obtain ⟨y, hy, hY⟩ : ∃ y, IntKind.u64.wrap (2 ^ min f.toNat 64) = y ∧ Tn.u64 y := ⟨_, rfl, u64_wrap _⟩
      obtain ⟨ex3, hx, hX⟩ := i64_at (ex + 1)
      have Y := Aside0.mk hY
      have X3 := Aside0.mk hX
      clear hY hX
      have FD36 := Aside0.mk (show wc.drew.heap[g]? = _ from F1.out)
      have HD36 := Aside0.mk (og_drew H1.out)
      refine wp_region_held_drew (S := fun W => W.cell? ⟨g, 5, none⟩ = some (.int .i64 f)) (by kernel_rfl) ((blk_cell FD36.out 5).trans rfl) (fun hHeld => ?_)
      generalize wc.drew = Wd36 at *
      refine tk (i := 0) ?_
      (try simp only [Act.put, g4, g5, g6])
      refine tk (i := 1) ?_
      (try simp only [Act.put, g4, g5, g6])
      refine tk (i := 2) ?_
      (try simp only [Act.put, g4, g5, g6])
      refine tk (i := 3) ?_
      (try simp only [Act.put, g4, g5, g6])
      refine tk (i := 4) ?_
      (try simp only [Act.put, g4, g5, g6])
      refine tk (i := 5) ?_
      (try simp only [Act.put, g4, g5, g6])
      refine tk (i := 6) ?_
      (try simp only [Act.put, g4, g5, g6])
      refine tk (i := 7) ?_
      (try simp only [Act.put, g4, g5, g6])
      refine tk (i := 8) ?_
      (try simp only [Act.put, g4, g5, g6])
      refine tk (i := 9) ?_
      (try simp only [Act.put, g4, g5, g6])
      refine tk (i := 10) ?_
      (try simp only [Act.put, g4, g5, g6])
      refine wpAnyH_ready (rs := [11]) (by kernel_rfl) (by simp) ?_
      refine AllReadyH.cons (o := ?ob32) ?hb32 (fun K hK => ?sb32) ?mb32
      case hb32 => simp only [g1, g2, g3]; rfl
      case sb32 =>
        have c2 : Wd36.cell? ⟨g, 2, none⟩ = some (.int .i64 ex) := (blk_cell FD36.out 2).trans rfl
        go_simp
        clear c2
        refine hK.out _ _ ((blk_cell FD36.out 5).trans rfl) (fun hHeld2 => ?_)
        clear hK K hHeld
        have hHeld := hHeld2
        clear hHeld2
        (try simp only [Act.put, g4, g5, g6])
        refine tk (i := 12) ?_
        (try simp only [Act.put, g4, g5, g6])
        refine tk (i := 13) ?_
        (try simp only [Act.put, g4, g5, g6])
        refine tk (i := 14) ?_
        (try simp only [Act.put, g4, g5, g6])
        refine tk (i := 15) ?_
        (try simp only [Act.put, g4, g5, g6])
        refine tk (i := 16) ?_
        (try simp only [Act.put, g4, g5, g6])
        refine wpAnyH_ready (rs := [17]) (by kernel_rfl) (by simp) ?_
        refine AllReadyH.cons (o := ?ob33) ?hb33 (fun K hK => ?sb33) ?mb33
        case hb33 => simp only [g1, g2, g3]; rfl
        case sb33 =>
          have c1 : Wd36.cell? ⟨g, 1, none⟩ = some (.int .u64 lo) := (blk_cell FD36.out 1).trans rfl
          have z1 : Wd36.frozen? ⟨g, 1, none⟩ = false := blk_frozen FD36.out 1
          go_simp
          clear c1 z1
          have FS37 : (Wd36.setCell ⟨g, 1, none⟩ (.int .u64 y)).heap[g]? = some (TB hi y ex mo wd f low high neg) := by have P := blk_set FD36.out 1 (.int .u64 y); simpa using P
          have HS37 := og_set HD36.out 1 (.int .u64 y)
          obtain ⟨WS37, hWS37⟩ : ∃ V, V = Wd36.setCell ⟨g, 1, none⟩ (.int .u64 y) := ⟨_, rfl⟩
          rw [← hWS37] at FS37 HS37
          rw [← hWS37]
          clear hWS37
          have GS37 := Aside0.mk FS37
          have KS37 := Aside0.mk HS37
          clear FS37 HS37
          refine hK.out _ _ ((blk_cell GS37.out 5).trans rfl) (fun hHeld2 => ?_)
          clear hK K hHeld
          have hHeld := hHeld2
          clear hHeld2
          (try simp only [Act.put, g4, g5, g6])
          refine tk (i := 18) ?_
          (try simp only [Act.put, g4, g5, g6])
          refine tk (i := 19) ?_
          (try simp only [Act.put, g4, g5, g6])
          refine tk (i := 20) ?_
          (try simp only [Act.put, g4, g5, g6])
          refine wpAnyH_ready (rs := [21]) (by kernel_rfl) (by simp) ?_
          refine AllReadyH.cons (o := ?ob34) ?hb34 (fun K hK => ?sb34) ?mb34
          case hb34 => simp only [g1, g2, g3]; rfl
          case sb34 =>
            have c2 : WS37.cell? ⟨g, 2, none⟩ = some (.int .i64 ex) := (blk_cell GS37.out 2).trans rfl
            have z2 : WS37.frozen? ⟨g, 2, none⟩ = false := blk_frozen GS37.out 2
            go_simp
            clear c2 z2
            have FS38 : (WS37.setCell ⟨g, 2, none⟩ (.int .i64 ex3)).heap[g]? = some (TB hi y ex3 mo wd f low high neg) := by have P := blk_set GS37.out 2 (.int .i64 ex3); simpa using P
            have HS38 := og_set KS37.out 2 (.int .i64 ex3)
            obtain ⟨WS38, hWS38⟩ : ∃ V, V = WS37.setCell ⟨g, 2, none⟩ (.int .i64 ex3) := ⟨_, rfl⟩
            rw [← hWS38] at FS38 HS38
            rw [← hWS38]
            clear hWS38
            have GS38 := Aside0.mk FS38
            have KS38 := Aside0.mk HS38
            clear FS38 HS38
            refine hK.out _ _ ((blk_cell GS38.out 5).trans rfl) (fun hHeld2 => ?_)
            clear hK K hHeld
            have hHeld := hHeld2
            clear hHeld2
            (try simp only [Act.put, g4, g5, g6])
            refine wpAnyH_done (by kernel_rfl) ?_ _
            go_wp2
            go_meet
            case rel => exact ⟨hi, y, ex3, mo, u1, Y.out, X3.out, GS38.out, KS38.out⟩
          exact AllReadyH.nil
        exact AllReadyH.nil
      exact AllReadyH.nil
  obtain ⟨hi, lo, ex, mo, u1, u2, i1, F2, H2⟩ := hcut
  have F2 := Aside0.mk F2
  have H2 := Aside0.mk H2
  clear F1 H1 I1
  by_cases h : lo = 0
  · have d0 : (lo == 0) = true := beq_iff_eq.2 h
    clear h
    have c1 : wc.cell? ⟨g, 1, none⟩ = some (.int .u64 lo) := (blk_cell F2.out 1).trans rfl
    have c2 : wc.cell? ⟨g, 2, none⟩ = some (.int .i64 ex) := (blk_cell F2.out 2).trans rfl
    have c4 : wc.cell? ⟨g, 4, none⟩ = some (.int .i64 wd) := (blk_cell F2.out 4).trans rfl
    have c7 : wc.cell? ⟨g, 7, none⟩ = some (.int .i64 high) := (blk_cell F2.out 7).trans rfl
    have c8 : wc.cell? ⟨g, 8, none⟩ = some (.bool neg) := (blk_cell F2.out 8).trans rfl
    go_wp2
    go_region_held (fun W => W.cell? ⟨g, 4, none⟩ = some (.int .i64 wd) ∧ W.cell? ⟨g, 8, none⟩ = some (.bool neg)) (go_keep) (first
      | (go_at_call 92; refine (ZC.out _ _).mono ?_
         rintro e w3 ⟨n, rfl, gn, hb⟩
         have F9 := (hb.block _ (blk_lt F2.out)).trans F2.out
         have H3 := Aside0.mk (og_below (og_drew H2.out) hb)
         have GN := Aside0.mk gn
         have c1 : w3.cell? ⟨g, 1, none⟩ = some (.int .u64 lo) := (blk_cell F9 1).trans rfl
         have c2 : w3.cell? ⟨g, 2, none⟩ = some (.int .i64 ex) := (blk_cell F9 2).trans rfl
         have c4 : w3.cell? ⟨g, 4, none⟩ = some (.int .i64 wd) := (blk_cell F9 4).trans rfl
         have c7 : w3.cell? ⟨g, 7, none⟩ = some (.int .i64 high) := (blk_cell F9 7).trans rfl
         have c8 : w3.cell? ⟨g, 8, none⟩ = some (.bool neg) := (blk_cell F9 8).trans rfl
         clear F9 hb gn)
      | fail)
    all_goals
      go_wp2
      refine bodyPost_ret (v := .int .u64 n) (by simp [results, Tryz.results143, go_sem]) rfl ?_
      exact ⟨n, rfl, GN.out, H3.out⟩
  · have d0 : (lo == 0) = false := beq_eq_false_iff_ne.2 h
    clear h
    have c1 : wc.cell? ⟨g, 1, none⟩ = some (.int .u64 lo) := (blk_cell F2.out 1).trans rfl
    have c2 : wc.cell? ⟨g, 2, none⟩ = some (.int .i64 ex) := (blk_cell F2.out 2).trans rfl
    have c4 : wc.cell? ⟨g, 4, none⟩ = some (.int .i64 wd) := (blk_cell F2.out 4).trans rfl
    have c7 : wc.cell? ⟨g, 7, none⟩ = some (.int .i64 high) := (blk_cell F2.out 7).trans rfl
    have c8 : wc.cell? ⟨g, 8, none⟩ = some (.bool neg) := (blk_cell F2.out 8).trans rfl
    go_wp2
    go_region_held (fun W => W.cell? ⟨g, 2, none⟩ = some (.int .i64 ex) ∧ W.cell? ⟨g, 7, none⟩ = some (.int .i64 high)) (go_keep) (fail)
    have F3 := Aside0.mk (show wc.drew.heap[g]? = _ from F2.out)
    have H3 := Aside0.mk (og_drew H2.out)
    clear c1 c2 c4 c7 c8
    generalize wc.drew = Wd at *
    by_cases hx : ex > high
    · have d1 : decide (ex > high) = true := decide_eq_true hx
      have d2 : decide (high < ex) = true := d1
      have d3 : high < ex := hx
      clear hx
      have c1 : Wd.cell? ⟨g, 1, none⟩ = some (.int .u64 lo) := (blk_cell F3.out 1).trans rfl
      have c2 : Wd.cell? ⟨g, 2, none⟩ = some (.int .i64 ex) := (blk_cell F3.out 2).trans rfl
      have c4 : Wd.cell? ⟨g, 4, none⟩ = some (.int .i64 wd) := (blk_cell F3.out 4).trans rfl
      have c7 : Wd.cell? ⟨g, 7, none⟩ = some (.int .i64 high) := (blk_cell F3.out 7).trans rfl
      have c8 : Wd.cell? ⟨g, 8, none⟩ = some (.bool neg) := (blk_cell F3.out 8).trans rfl
      go_wp2
      go_region_held (fun W => W.cell? ⟨g, 4, none⟩ = some (.int .i64 wd) ∧ W.cell? ⟨g, 8, none⟩ = some (.bool neg)) (go_keep) (first
        | (go_at_call 93; refine (IC.out _ _).mono ?_
           rintro e w3 ⟨n, rfl, gn, hb⟩
           have F9 := (hb.block _ (blk_lt F3.out)).trans F3.out
           have H4 := Aside0.mk (og_below (og_drew H3.out) hb)
           have GN := Aside0.mk gn
           have c1 : w3.cell? ⟨g, 1, none⟩ = some (.int .u64 lo) := (blk_cell F9 1).trans rfl
           have c2 : w3.cell? ⟨g, 2, none⟩ = some (.int .i64 ex) := (blk_cell F9 2).trans rfl
           have c4 : w3.cell? ⟨g, 4, none⟩ = some (.int .i64 wd) := (blk_cell F9 4).trans rfl
           have c7 : w3.cell? ⟨g, 7, none⟩ = some (.int .i64 high) := (blk_cell F9 7).trans rfl
           have c8 : w3.cell? ⟨g, 8, none⟩ = some (.bool neg) := (blk_cell F9 8).trans rfl
           clear F9 hb gn)
        | fail)
      all_goals
        go_wp2
        refine bodyPost_ret (v := .int .u64 n) (by simp [results, Tryz.results143, go_sem]) rfl ?_
        exact ⟨n, rfl, GN.out, H4.out⟩
    · have d1 : decide (ex > high) = false := decide_eq_false hx
      have d2 : decide (high < ex) = false := d1
      have d3 : ¬ high < ex := hx
      have EX := Aside0.mk (show ex ≤ high by omega)
      have II := Aside0.mk i1
      have UU := Aside0.mk u2
      clear hx i1 u1 u2
      have c1 : Wd.cell? ⟨g, 1, none⟩ = some (.int .u64 lo) := (blk_cell F3.out 1).trans rfl
      have c2 : Wd.cell? ⟨g, 2, none⟩ = some (.int .i64 ex) := (blk_cell F3.out 2).trans rfl
      have c4 : Wd.cell? ⟨g, 4, none⟩ = some (.int .i64 wd) := (blk_cell F3.out 4).trans rfl
      have c7 : Wd.cell? ⟨g, 7, none⟩ = some (.int .i64 high) := (blk_cell F3.out 7).trans rfl
      have c8 : Wd.cell? ⟨g, 8, none⟩ = some (.bool neg) := (blk_cell F3.out 8).trans rfl
      go_wp2
      go_region_held (fun W => W.cell? ⟨g, 1, none⟩ = some (.int .u64 lo) ∧ W.cell? ⟨g, 2, none⟩ = some (.int .i64 ex) ∧ W.cell? ⟨g, 4, none⟩ = some (.int .i64 wd) ∧ W.cell? ⟨g, 7, none⟩ = some (.int .i64 high) ∧ W.cell? ⟨g, 8, none⟩ = some (.bool neg)) (go_keep) (first
        | (go_at_call 156; refine (CC.out _ _ _ _ EX.out II.out.1 UU.out).mono ?_
           rintro e w3 ⟨n, er, rfl, gn, hb⟩
           have F9 := (hb.block _ (blk_lt F3.out)).trans F3.out
           have H4 := Aside0.mk (og_below (og_drew H3.out) hb)
           have GN := Aside0.mk gn
           have c1 : w3.cell? ⟨g, 1, none⟩ = some (.int .u64 lo) := (blk_cell F9 1).trans rfl
           have c2 : w3.cell? ⟨g, 2, none⟩ = some (.int .i64 ex) := (blk_cell F9 2).trans rfl
           have c4 : w3.cell? ⟨g, 4, none⟩ = some (.int .i64 wd) := (blk_cell F9 4).trans rfl
           have c7 : w3.cell? ⟨g, 7, none⟩ = some (.int .i64 high) := (blk_cell F9 7).trans rfl
           have c8 : w3.cell? ⟨g, 8, none⟩ = some (.bool neg) := (blk_cell F9 8).trans rfl
           clear F9 hb gn)
        | fail)
      all_goals
        go_wp2
        refine bodyPost_ret (v := .int .u64 n) (by simp [results, Tryz.results143, go_sem]) rfl ?_
        exact ⟨n, rfl, GN.out, H4.out⟩
end Go.Proofs.YticonaahlplbjaaGreatDoor.Tn
