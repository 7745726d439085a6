/- The walk of the law UtfBack: it returns true. -/
import Derived.Test.YtjhdnlgbboboiaaUtfBackMath
namespace Go.Proofs.Ytjhdnlgbboboiaa.Utf
open Go.RowKit Go.Proofs.YtjhdnlgbboboiaaW.PrintWords Go.Proofs.YtjhdnlgbboboiaaW.PrintLast Go.Proofs.YtjhdnlgbboboiaaW.PrintMore Go.Proofs.Ytjhdnlgbboboiaa.Base Go.Proofs.Ytjhdnlgbboboiaa.Leb
set_option linter.unusedVariables false
set_option linter.unusedSimpArgs false

set_option maxRecDepth 100000 in
set_option maxHeartbeats 1000000 in
theorem back_early (A0 : Option Addr) (c0 : Nat) (l0 : List Int) (A1 : Option Addr) (c1 : Nat) (l1 : List Int) (w : World) (h : l0.length > 100 ∨ l1.length > 100) :
    Calls Try.prog 6 #[.slice A0 l0.length c0, .slice A1 l1.length c1] w fun e w' => e = .returned (.bool true) ∧ Below w.heap.size w w' := by
  by_cases c1 : l0.length > 100
  · clear h
    have d1 : decide (100 < (l0.length : Int)) = true := decide_eq_true (by omega)
    go_enter Try.func6, Try.ntmps6
    go_wp2_with fail
    refine (awake_calls w).mono ?_
    rintro e w1 ⟨rfl, hb⟩
    have HB := Aside0.mk hb
    clear hb
    go_wp2
    go_ret
    exact ⟨rfl, HB.out⟩
  · have c2 : l1.length > 100 := by omega
    clear h
    have d1 : decide (100 < (l0.length : Int)) = false := decide_eq_false (by omega)
    have d2 : decide (100 < (l1.length : Int)) = true := decide_eq_true (by omega)
    go_enter Try.func6, Try.ntmps6
    go_wp2_with fail
    refine (awake_calls w).mono ?_
    rintro e w1 ⟨rfl, hb⟩
    have HB := Aside0.mk hb
    clear hb
    go_wp2
    go_ret
    exact ⟨rfl, HB.out⟩
set_option maxRecDepth 100000 in
set_option maxHeartbeats 4000000 in
theorem back_main (A0 : Option Addr) (c0 : Nat) (l0 : List Int) (A1 : Option Addr) (c1 : Nat) (l1 : List Int) (w : World) (hr0 : Kd.C (Kd.int .i32) w A0 l0.length l0) (hr1 : Kd.C (Kd.int .u8) w A1 l1.length l1) (hok : okB l1) (h0 : l0.length ≤ 100) (h1 : l1.length ≤ 100) :
    Calls Try.prog 6 #[.slice A0 l0.length c0, .slice A1 l1.length c1] w fun e w' => e = .returned (.bool true) ∧ Below w.heap.size w w' := by
  have d1 : decide (100 < (l0.length : Int)) = false := decide_eq_false (by omega)
  have d2 : decide (100 < (l1.length : Int)) = false := decide_eq_false (by omega)
  have HR0 := Aside0.mk hr0
  have HR1 := Aside0.mk hr1
  have HOK := Aside0.mk hok
  have H0 := Aside0.mk h0
  have H1 := Aside0.mk h1
  clear hr0 hr1 hok h0 h1
  go_enter Try.func6, Try.ntmps6
  go_wp2_with fail
  refine (awake_calls w).mono ?_
  rintro e w1 ⟨rfl, hb⟩
  have HB1 := Aside0.mk hb
  clear hb
  go_wp2
  clear d1 d2
  go_loopg [5, 6, 33] l0.length (fun d v5 v6 v33 w' => ∃ (i : Nat), v6 = .int .i64 (goods (l0.take i) : Int) ∧ v33 = .int .i64 (i : Int) ∧ Aside0 (i + d = l0.length) ∧ Aside0 (Kd.R (Kd.int .u8) 5 w' w.heap.size (fun _ => True) v5 (encs (l0.take i))) ∧ Aside0 (Below w.heap.size w w'))
  case atStart => exact ⟨0, by simp [goods], rfl, ⟨by omega⟩, ⟨by have := Kd.R_nil (Kd.int .u8) 5 w1 w.heap.size (fun _ => True); simpa [encs] using this⟩, HB1⟩
  case round =>
    clear HB1
    obtain ⟨i, rfl, rfl, HI, HO, HB⟩ := hrel
    cases gk with
    | zero =>
      have hi : i = l0.length := by have := HI.out; omega
      subst hi
      obtain ⟨n, hn⟩ : ∃ n, n = goods (l0.take l0.length) := ⟨_, rfl⟩
      obtain ⟨B, hB⟩ : ∃ B, B = encs (l0.take l0.length) := ⟨_, rfl⟩
      have hn1 : n ≤ 100 := by have := goods_len (l0.take l0.length); rw [List.take_length] at this; rw [hn, List.take_length]; have := H0.out; omega
      have hB1 : B.length ≤ 400 := by have := encs_len (l0.take l0.length); rw [List.take_length] at this; rw [hB, List.take_length]; have := H0.out; omega
      have hm1 : l1.length ≤ 100 := H1.out
      have F1 : ∀ (A : Option Addr) (c : Nat) (W : World), Kd.C (Kd.int .u8) W A B.length B → Calls Try.prog 18 #[.slice A B.length c] W fun e w' => e = .returned (.tuple #[.int .i64 (n : Int), .bool true]) ∧ Below W.heap.size W w' := by
        intro A c W h
        have := count_is A c B W (by rw [hB]; exact encs_ok _) (by omega) h
        rw [hB, cnt_encs, name_encs, ← hB, ← hn] at this
        exact this
      have F2 : ∀ (A : Option Addr) (c : Nat) (W : World), Kd.C (Kd.int .u8) W A (B ++ [255]).length (B ++ [255]) → Calls Try.prog 20 #[.slice A (B ++ [255]).length c] W fun e w' => e = .returned (.bool false) ∧ Below W.heap.size W w' := by
        intro A c W h
        have := valid_is A c (B ++ [255]) W (by rw [hB]; exact okB_app (encs_ok _) okB_255) (by simp; omega) h
        rw [show isName (B ++ [255]) = false by rw [hB]; exact name_255 _] at this
        exact this
      have F3 : ∀ (A : Option Addr) (c : Nat) (W : World), Kd.C (Kd.int .u8) W A ([128] ++ B).length ([128] ++ B) → Calls Try.prog 20 #[.slice A ([128] ++ B).length c] W fun e w' => e = .returned (.bool false) ∧ Below W.heap.size W w' := by
        intro A c W h
        have := valid_is A c ([128] ++ B) W (by rw [hB]; exact okB_128 _) (by simp; omega) h
        rw [show isName ([128] ++ B) = false by rw [hB]; exact name_128 _] at this
        exact this
      have F4 : ∀ (A : Option Addr) (c : Nat) (W : World), Kd.C (Kd.int .u8) W A l1.length l1 → Calls Try.prog 18 #[.slice A l1.length c] W fun e w' => e = .returned (.tuple #[.int .i64 (cntI l1), .bool (isName l1)]) ∧ Below W.heap.size W w' :=
        fun A c W h => count_is A c l1 W HOK.out (by omega) h
      have F5 : ∀ (A : Option Addr) (c : Nat) (W : World), Kd.C (Kd.int .u8) W A (B ++ l1).length (B ++ l1) → Calls Try.prog 18 #[.slice A (B ++ l1).length c] W fun e w' => e = .returned (.tuple #[.int .i64 (cntI (B ++ l1)), .bool (isName l1)]) ∧ Below W.heap.size W w' := by
        intro A c W h
        have := count_is A c (B ++ l1) W (by rw [hB]; exact okB_app (encs_ok _) HOK.out) (by rw [List.length_append]; omega) h
        rw [show isName (B ++ l1) = isName l1 by rw [hB]; exact name_all _ _ HOK.out] at this
        exact this
      have g1 : 0 ≤ cntI l1 ∧ cntI l1 ≤ 100 := by
        unfold cntI
        cases he : uCnt l1.length l1 with
        | none => simp
        | some k => have := uCnt_range _ _ _ he; simp; omega
      have F6 : isName l1 = true → cntI (B ++ l1) = (n : Int) + cntI l1 := by
        intro h
        rw [hB, hn]
        exact cnt_all _ _ HOK.out h
      have ho := HO.out
      rw [← hB] at ho
      obtain ⟨AB, cB, rfl⟩ := Kd.R_slice ho
      have RB := Aside0.mk (Kd.R_reads' ho).2.2
      obtain ⟨X1, hX1⟩ : ∃ X, X = B ++ [255] := ⟨_, rfl⟩
      obtain ⟨X2, hX2⟩ : ∃ X, X = [128] ++ B := ⟨_, rfl⟩
      obtain ⟨X3, hX3⟩ : ∃ X, X = B ++ l1 := ⟨_, rfl⟩
      rw [← hX1] at F2
      rw [← hX2] at F3
      rw [← hX3] at F5 F6
      have X1' := Aside0.mk hX1
      have X2' := Aside0.mk hX2
      have X3' := Aside0.mk hX3
      have F1' := Aside0.mk F1
      have F2' := Aside0.mk F2
      have F3' := Aside0.mk F3
      have F4' := Aside0.mk F4
      have F5' := Aside0.mk F5
      have LB := Aside0.mk hB1
      rw [← hn]
      clear F1 F2 F3 F4 F5 ho HO HI hn hB hB1 hm1 hX1 hX2 hX3
      go_wp2_with fail
      refine (F1'.out AB cB wr RB.out).mono ?_
      rintro e w2 ⟨rfl, hb⟩
      have HB2 := Aside0.mk (below_then HB.out HB.out.size hb)
      have RB2 := Aside0.mk (Kd.C_below RB.out hb)
      clear hb HB RB
      go_wp2_with (first | ((with_reducible refine gate_dst (N := 85) rfl ?_); (try (refine gate_guard (by rfl) ?_; dsimp only)); refine Kd.R_lit (Kd.int .u8) (w0 := w2) w2.heap.size 5 ?hg (N := 85) ?hd (xs := ([] : List Int)) (inner := []) (ok := fun _ => True) (okp := fun _ => True) ?hr ?hp (fun _ hk => hk) trivial (Below.refl _ _) (Nat.le_refl _) (by simp) ?_; (case hd => rfl); (case hg => rfl); (case hr => first | (go_simp; done) | (go_simp; rfl)); (case hp => exact (Reps.none _ _)); intro u1 u1w ho hb hg_ hnew_; clear hg_ hnew_; have Hu1 := Aside0.mk ho; have HBu1 := Aside0.mk hb; clear ho hb) | ((with_reducible refine gate_builtin (b := .append) (xs := #[.tmp 85, .tmp 86]) rfl ?_); (try (refine gate_guard (by rfl) ?_; dsimp only)); at_builtin; refine Kd.R_append_rows (Kd.int .u8) (w0 := w2) w2.heap.size rfl (.tmp 85) (.tmp 86) 22 5 (.int .u8 0) 1 rfl Try.underlying22 info5 rfl (by decide) (by omega) u1 [] B _ _ _ (fun _ => True) (fun _ => False) rfl rfl ?aO ?aR (fun _ _ h => h) (fun _ h => h.elim) ?aF ?aB ?aS ?aL ?_; (case aR => exact (Kd.C_below RB2.out HBu1.out)); (case aB => exact HBu1.out); (case aF => exact (fun _ _ => trivial)); (case aO => exact Hu1.out); (case aS => exact HBu1.out.size); (case aL => have := LB.out; simp; omega); intro u2 u2w ho hb hg hat; have Hu2 := Aside0.mk ho; have HBu2 := Aside0.mk hb; clear ho hb hg hat) | (((with_reducible refine gate_builtin (b := .append) (xs := #[.tmp 87, .tmp 88]) rfl ?_); (try (refine gate_guard (by rfl) ?_; dsimp only)); at_builtin; refine Kd.R_append (Kd.int .u8) (w0 := w2) w2.heap.size rfl (.tmp 87) (.tmp 88) 22 5 (.int .u8 0) 1 rfl Try.underlying22 info5 rfl (by decide) (by omega) u2 ([] ++ B) 255 [.int .u8 255] (fun _ => True) (fun _ => False) rfl rfl ?aP (fun _ hk => hk.elim) ?aF ?aO ?aB ?aS ?aL ?_; (case aP => exact rfl); (case aB => exact HBu2.out); (case aF => exact (fun _ _ => trivial)); (case aO => exact Hu2.out); (case aS => exact (below_size HBu2.out)); (case aL => have := LB.out; simp; omega); intro u3 u3w ho hb hg hat; have Hu3 := Aside0.mk ho; have HBu3 := Aside0.mk hb; clear ho hb hg hat); have hu3 := Hu3.out; rw [List.nil_append, ← X1'.out] at hu3; obtain ⟨A3, c3, rfl⟩ := Kd.R_slice hu3; have C3 := Aside0.mk (Kd.R_reads' hu3).2.2; clear hu3) | (go_at_call 20; with_reducible refine (F2'.out A3 c3 u3w C3.out).mono ?_; rintro e w3 ⟨rfl, hb⟩; have HB3 := Aside0.mk (below_then HBu3.out HBu3.out.size hb); have RB3 := Aside0.mk (Kd.C_below RB2.out HB3.out); have HW3 := Aside0.mk (below_then HB2.out HB2.out.size HB3.out); clear hb F2') | ((with_reducible refine gate_dst (N := 93) rfl ?_); (try (refine gate_guard (by rfl) ?_; dsimp only)); refine Kd.R_lit (Kd.int .u8) (w0 := w3) w3.heap.size 5 ?hg (N := 93) ?hd (xs := ([128] : List Int)) (inner := [.int .u8 128]) (ok := fun _ => True) (okp := fun _ => True) ?hr ?hp (fun _ hk => hk) trivial (Below.refl _ _) (Nat.le_refl _) (by simp) ?_; (case hd => rfl); (case hg => rfl); (case hr => first | (go_simp; done) | (go_simp; rfl)); (case hp => exact (Reps.one (show Kd.M (Kd.int .u8) _ _ _ 128 [.int .u8 128] from rfl) (Reps.none _ _))); intro u4 u4w ho hb hg_ hnew_; clear hg_ hnew_; have Hu4 := Aside0.mk ho; have HBu4 := Aside0.mk hb; clear ho hb) | (((with_reducible refine gate_builtin (b := .append) (xs := #[.tmp 93, .tmp 94]) rfl ?_); (try (refine gate_guard (by rfl) ?_; dsimp only)); at_builtin; refine Kd.R_append_rows (Kd.int .u8) (w0 := w3) w3.heap.size rfl (.tmp 93) (.tmp 94) 22 5 (.int .u8 0) 1 rfl Try.underlying22 info5 rfl (by decide) (by omega) u4 [128] B _ _ _ (fun _ => True) (fun _ => False) rfl rfl ?aO ?aR (fun _ _ h => h) (fun _ h => h.elim) ?aF ?aB ?aS ?aL ?_; (case aR => exact (Kd.C_below RB3.out HBu4.out)); (case aB => exact HBu4.out); (case aF => exact (fun _ _ => trivial)); (case aO => exact Hu4.out); (case aS => exact HBu4.out.size); (case aL => have := LB.out; simp; omega); intro u5 u5w ho hb hg hat; have Hu5 := Aside0.mk ho; have HBu5 := Aside0.mk hb; clear ho hb hg hat); have hu5 := Hu5.out; rw [← X2'.out] at hu5; obtain ⟨A5, c5, rfl⟩ := Kd.R_slice hu5; have C5 := Aside0.mk (Kd.R_reads' hu5).2.2; clear hu5) | (go_at_call 20; with_reducible refine (F3'.out A5 c5 u5w C5.out).mono ?_; rintro e w4 ⟨rfl, hb⟩; have HB4 := Aside0.mk (below_then HBu5.out HBu5.out.size hb); have RB4 := Aside0.mk (Kd.C_below RB3.out HB4.out); have HW4 := Aside0.mk (below_then HW3.out HW3.out.size HB4.out); clear hb F3') | fail)
      refine (F4'.out A1 c1 w4 (Kd.C_below HR1.out HW4.out)).mono ?_
      rintro e w5 ⟨rfl, hb⟩
      have RB5 := Aside0.mk (Kd.C_below RB4.out hb)
      have HW5 := Aside0.mk (below_then HW4.out HW4.out.size hb)
      clear hb
      go_wp2_with (first | ((with_reducible refine gate_dst (N := 104) rfl ?_); (try (refine gate_guard (by rfl) ?_; dsimp only)); refine Kd.R_lit (Kd.int .u8) (w0 := w5) w5.heap.size 5 ?hg (N := 104) ?hd (xs := ([] : List Int)) (inner := []) (ok := fun _ => True) (okp := fun _ => True) ?hr ?hp (fun _ hk => hk) trivial (Below.refl _ _) (Nat.le_refl _) (by simp) ?_; (case hd => rfl); (case hg => rfl); (case hr => first | (go_simp; done) | (go_simp; rfl)); (case hp => exact (Reps.none _ _)); intro u6 u6w ho hb hg_ hnew_; clear hg_ hnew_; have Hu6 := Aside0.mk ho; have HBu6 := Aside0.mk hb; clear ho hb) | ((with_reducible refine gate_builtin (b := .append) (xs := #[.tmp 104, .tmp 105]) rfl ?_); (try (refine gate_guard (by rfl) ?_; dsimp only)); at_builtin; refine Kd.R_append_rows (Kd.int .u8) (w0 := w5) w5.heap.size rfl (.tmp 104) (.tmp 105) 22 5 (.int .u8 0) 1 rfl Try.underlying22 info5 rfl (by decide) (by omega) u6 [] B _ _ _ (fun _ => True) (fun _ => False) rfl rfl ?aO ?aR (fun _ _ h => h) (fun _ h => h.elim) ?aF ?aB ?aS ?aL ?_; (case aR => exact (Kd.C_below RB5.out HBu6.out)); (case aB => exact HBu6.out); (case aF => exact (fun _ _ => trivial)); (case aO => exact Hu6.out); (case aS => exact HBu6.out.size); (case aL => have := LB.out; simp; omega); intro u7 u7w ho hb hg hat; have Hu7 := Aside0.mk ho; have HBu7 := Aside0.mk hb; clear ho hb hg hat) | (((with_reducible refine gate_builtin (b := .append) (xs := #[.tmp 106, .tmp 107]) rfl ?_); (try (refine gate_guard (by rfl) ?_; dsimp only)); at_builtin; refine Kd.R_append_rows (Kd.int .u8) (w0 := w5) w5.heap.size rfl (.tmp 106) (.tmp 107) 22 5 (.int .u8 0) 1 rfl Try.underlying22 info5 rfl (by decide) (by omega) u7 ([] ++ B) l1 _ _ _ (fun _ => True) (fun _ => False) rfl rfl ?aO ?aR (fun _ _ h => h) (fun _ h => h.elim) ?aF ?aB ?aS ?aL ?_; (case aR => exact (Kd.C_below (Kd.C_below HR1.out HW5.out) HBu7.out)); (case aB => exact HBu7.out); (case aF => exact (fun _ _ => trivial)); (case aO => exact Hu7.out); (case aS => exact HBu7.out.size); (case aL => have := LB.out; have := H1.out; simp; omega); intro u8 u8w ho hb hg hat; have Hu8 := Aside0.mk ho; have HBu8 := Aside0.mk hb; clear ho hb hg hat); have hu8 := Hu8.out; rw [List.nil_append, ← X3'.out] at hu8; obtain ⟨A8, c8, rfl⟩ := Kd.R_slice hu8; have C8 := Aside0.mk (Kd.R_reads' hu8).2.2; clear hu8) | fail)
      refine (F5'.out A8 c8 u8w C8.out).mono ?_
      rintro e w6 ⟨rfl, hb⟩
      have HB6 := Aside0.mk (below_then HBu8.out HBu8.out.size hb)
      have HW6 := Aside0.mk (below_then HW5.out HW5.out.size HB6.out)
      clear hb F4' F5' F1'
      cases hN : isName l1 with
      | false =>
        clear F6 hN
        go_wp2
        go_ret
        exact ⟨rfl, HW6.out⟩
      | true =>
        have f6 := F6 hN
        have k6 : (cntI X3 == (n : Int) + cntI l1) = true := by rw [f6]; simp
        clear F6 hN f6
        go_wp2
        go_ret
        exact ⟨rfl, HW6.out⟩
    | succ d =>
      have hi : i < l0.length := by have := HI.out; omega
      obtain ⟨ad, hAd, hcell⟩ := Kd.at_int HR0.out (i : Int) (by omega) (by omega)
      subst hAd
      have hadlt := World.block_lt_of_cell? w _ hcell
      have hcell1 := (HB.out.cell hadlt).trans hcell
      obtain ⟨c, hc⟩ : ∃ c, c = rd l0 (i : Int) := ⟨_, rfl⟩
      rw [← hc] at hcell1
      simp only [Int.toNat_natCast] at hcell1
      have hsn : l0.take (i + 1) = l0.take i ++ [c] := by
        rw [List.take_add_one, List.getElem?_eq_getElem hi]
        simp [hc, rd, List.getD_eq_getElem?_getD, List.getElem?_eq_getElem hi]
      have e1 : encs (l0.take (i + 1)) = encs (l0.take i) ++ encL c := by rw [hsn, encs_snoc]
      have e2 := goods_snoc (l0.take i) c
      rw [← hsn] at e2
      have hp : (l0.take i).length ≤ 100 := by rw [List.length_take]; have := H0.out; omega
      obtain ⟨p, hpp⟩ : ∃ p, p = l0.take i := ⟨_, rfl⟩
      have g1 := goods_len p
      have g2 := encs_len p
      rw [← hpp] at e1 e2 hp
      rw [← hpp] at HO ⊢
      have g3 : goods p ≤ 100 := by omega
      have g4 : (encs p).length ≤ 400 := by omega
      have hi1 : (i : Int) < (l0.length : Int) := by omega
      have hi2 : (l0.length : Int) ≤ 100 := by have := H0.out; omega
      have E1 := Aside0.mk e1
      have E2 := Aside0.mk e2
      have ho := HO.out
      obtain ⟨AB, cB, rfl⟩ := Kd.R_slice ho
      clear hcell hadlt hc hsn e1 e2 hpp g1 g2 ho
      have hB1 : Aside0 ((encs p).length ≤ 400) := ⟨g4⟩
      by_cases hbad : badRune c
      · have e2 := E2.out
        rw [if_pos hbad, Nat.add_zero] at e2
        have e1 := E1.out
        rw [encL_bad hbad, List.append_nil] at e1
        have PUT := Aside0.mk (fun W => Put_calls c W)
        unfold PutPost at PUT
        rw [encL_bad hbad, decide_eq_false (fun h => h hbad)] at PUT
        have E1 := Aside0.mk e1
        have E2 := Aside0.mk e2
        clear hbad e1 e2 hp
        go_wp2_with fail
        refine (PUT.out wr).mono ?_
        rintro e w2 ⟨A, m, rfl, hb, hcc⟩
        have HB2 := Aside0.mk (below_then HB.out HB.out.size hb)
        have HO2 := Aside0.mk (Kd.R_below HO.out hb)
        clear hb hcc
        go_wp2
        go_roundg d
        case measure => omega
        case rel => exact ⟨i + 1, by rw [E2.out]; rfl, by simp, ⟨by have := HI.out; omega⟩, ⟨by rw [E1.out]; exact HO2.out⟩, HB2⟩
      · have e2 := E2.out
        rw [if_neg hbad] at e2
        have PUT := Aside0.mk (fun W => Put_calls c W)
        unfold PutPost at PUT
        rw [decide_eq_true hbad] at PUT
        have hl := encL_len hbad
        have NX := next_is p c hbad hp
        have E2 := Aside0.mk e2
        obtain ⟨X, hX⟩ : ∃ X, X = encs p ++ encL c := ⟨_, rfl⟩
        have hXl : X.length ≤ 404 := by rw [hX, List.length_append]; omega
        rw [← hX] at NX
        have N1 : ∀ (A : Option Addr) (q : Nat) (W : World), X.length ≤ q → Kd.C (Kd.int .u8) W A X.length X → Calls Try.prog 16 #[.slice A X.length q, .int .i64 ((encs p).length : Int)] W fun e w' => e = .returned (.tuple #[.int .i32 c, .int .i64 (X.length : Int), .bool true]) ∧ Below W.heap.size W w' := by
          intro A q W hq h
          have := Next_calls A q X ((encs p).length : Int) W (by omega) hq h
          rw [NX] at this
          exact this
        have N1' := Aside0.mk N1
        have HX := Aside0.mk hX
        have HL := Aside0.mk hl
        clear hbad e2 hp NX N1 hX hl
        go_wp2_with (first | (go_at_call 21; with_reducible refine (PUT.out wr).mono ?_; rintro e w2 ⟨A, m, rfl, hb, hcc⟩; have HB2 := Aside0.mk (below_then HB.out HB.out.size hb); have HO2 := Aside0.mk (Kd.R_below HO.out hb); have HC2 := Aside0.mk hcc; clear hb hcc) | (((with_reducible refine gate_builtin (b := .append) (xs := #[.tmp 46, .tmp 47]) rfl ?_); (try (refine gate_guard (by rfl) ?_; dsimp only)); at_builtin; refine Kd.R_append_rows (Kd.int .u8) (w0 := w) w.heap.size rfl (.tmp 46) (.tmp 47) 22 5 (.int .u8 0) 1 rfl Try.underlying22 info5 rfl (by decide) (by omega) (.slice AB (encs p).length cB) (encs p) (encL c) _ _ _ (fun _ => True) (fun _ => False) rfl rfl ?aO ?aR (fun _ _ h => h) (fun _ h => h.elim) ?aF ?aB ?aS ?aL ?_; (case aR => exact HC2.out); (case aB => exact HB2.out); (case aF => exact (fun _ _ => trivial)); (case aO => exact HO2.out); (case aS => exact HB2.out.size); (case aL => have := hB1.out; have := HL.out; omega); intro v3 v3w ho hb hg hat; have Hv3 := Aside0.mk ho; have HBv3 := Aside0.mk hb; clear ho hb hg hat); have ho3 := Hv3.out; rw [← HX.out] at ho3; obtain ⟨A3, c3, rfl⟩ := Kd.R_slice ho3; have HO3 := Aside0.mk ho3; clear ho3) | (go_at_call 16; with_reducible refine (N1'.out A3 c3 v3w (Kd.R_reads' HO3.out).2.1 (Kd.R_reads' HO3.out).2.2).mono ?_; rintro e w4 ⟨rfl, hb⟩; have HO4 := Aside0.mk (Kd.R_below HO3.out hb); have HB4 := Aside0.mk (below_then HBv3.out HBv3.out.size hb); clear hb) | fail)
        go_roundg d
        case measure => omega
        case rel => exact ⟨i + 1, by rw [E2.out]; simp, by simp, ⟨by have := HI.out; omega⟩, ⟨by rw [E1.out, ← HX.out]; exact HO4.out⟩, HB4⟩
theorem back_walk (a0 : Option Addr) (len0 cap0 : Nat) (z0 : List Int) (a1 : Option Addr) (len1 cap1 : Nat) (z1 : List Int) (w : World) (w0 : (a0 = none ∧ len0 = 0 ∧ cap0 = 0 ∧ z0 = []) ∨ ∃ x, a0 = some x ∧ len0 ≤ cap0 ∧ cap0 ≤ maxLen ∧ z0.length = cap0 ∧ (∀ i, i < z0.length → w.cell? (x.add i) = some (.int .i32 (z0.getD i 0))) ∧ ∀ n ∈ z0, (Lit.int .i32 n).wf = true) (y0 : len0 * 4 ≤ 140737488351232) (w1 : (a1 = none ∧ len1 = 0 ∧ cap1 = 0 ∧ z1 = []) ∨ ∃ x, a1 = some x ∧ len1 ≤ cap1 ∧ cap1 ≤ maxLen ∧ z1.length = cap1 ∧ (∀ i, i < z1.length → w.cell? (x.add i) = some (.int .u8 (z1.getD i 0))) ∧ ∀ n ∈ z1, (Lit.int .u8 n).wf = true) (y1 : len1 * 1 ≤ 140737488351232) :
    Calls Try.prog 6 #[.slice a0 len0 cap0, .slice a1 len1 cap1] w fun e w' => e = .returned (.bool true) ∧ Below w.heap.size w w' := by
  obtain ⟨l0, rfl, hr0, hm0, hw0, hc0⟩ := ReadsInt.ofRowC w0
  obtain ⟨l1, rfl, hr1, hm1, hw1, hc1⟩ := ReadsInt.ofRowC w1
  by_cases h : l0.length > 100 ∨ l1.length > 100
  · exact back_early a0 cap0 l0 a1 cap1 l1 w h
  · refine back_main a0 cap0 l0 a1 cap1 l1 w (Kd.C_of_reads (d := (0 : Int)) (h1 := fun _ => rfl) hr0) (Kd.C_of_reads (d := (0 : Int)) (h1 := fun _ => rfl) hr1) ?_ (by omega) (by omega)
    intro x hx
    have := hw1 x hx
    simp only [Lit.wf, Bool.and_eq_true, decide_eq_true_eq] at this
    have h1 : IntKind.u8.min = 0 := rfl
    have h2 : IntKind.u8.max = 255 := rfl
    rw [h1, h2] at this
    omega
end Go.Proofs.Ytjhdnlgbboboiaa.Utf
