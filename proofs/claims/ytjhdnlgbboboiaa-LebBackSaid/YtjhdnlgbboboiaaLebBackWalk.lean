/- The walk of the law LebBack: it returns true. -/
import Derived.Test.YtjhdnlgbboboiaaLebBackMath
namespace Go.Proofs.Ytjhdnlgbboboiaa.Leb
open Go.RowKit Go.Proofs.YtjhdnlgbboboiaaW.PrintWords Go.Proofs.YtjhdnlgbboboiaaW.PrintLast Go.Proofs.YtjhdnlgbboboiaaW.PrintMore Go.Proofs.Ytjhdnlgbboboiaa.Base
set_option linter.unusedVariables false
set_option linter.unusedSimpArgs false

set_option maxRecDepth 100000 in
set_option maxHeartbeats 2000000 in
theorem back_early (n : Int) (A : Option Addr) (c : Nat) (l : List Int) (b : Int) (w : World) (h : l.length > 100 ∨ b < 1 ∨ b > 64) :
    Calls Try.prog 10 #[.int .u64 n, .slice A l.length c, .int .i64 b] w fun e w' => e = .returned (.bool true) ∧ Below w.heap.size w w' := by
  by_cases c1 : l.length > 100
  · clear h
    have d1 : decide (100 < l.length) = true := decide_eq_true c1
    go_enter Try.func10, Try.ntmps10
    go_wp2_with fail
    refine (awake_calls w).mono ?_
    rintro e w1 ⟨rfl, hb⟩
    have HB := Aside0.mk hb
    clear hb
    go_wp2
    go_ret
    exact ⟨rfl, HB.out⟩
  by_cases c2 : b < 1
  · clear h
    have d1 : decide (100 < l.length) = false := decide_eq_false c1
    go_enter Try.func10, Try.ntmps10
    go_wp2_with fail
    refine (awake_calls w).mono ?_
    rintro e w1 ⟨rfl, hb⟩
    have HB := Aside0.mk hb
    clear hb
    go_wp2
    go_ret
    exact ⟨rfl, HB.out⟩
  · have c3 : b > 64 := by omega
    clear h
    have d1 : decide (100 < l.length) = false := decide_eq_false c1
    go_enter Try.func10, Try.ntmps10
    go_wp2_with fail
    refine (awake_calls w).mono ?_
    rintro e w1 ⟨rfl, hb⟩
    have HB := Aside0.mk hb
    clear hb
    go_wp2
    go_ret
    exact ⟨rfl, HB.out⟩
set_option maxRecDepth 100000 in
set_option maxHeartbeats 4000000 in
theorem back_main (n : Int) (A : Option Addr) (cl : Nat) (l : List Int) (b : Int) (w : World) (n0 : 0 ≤ n) (n1 : n < 18446744073709551616) (hl : l.length ≤ 100) (b0 : 1 ≤ b) (b1 : b ≤ 64)
    (hr : Kd.C (Kd.int .u8) w A l.length l) (hc0 : l.length ≤ cl) (hok : okB l) :
    Calls Try.prog 10 #[.int .u64 n, .slice A l.length cl, .int .i64 b] w fun e w' => e = .returned (.bool true) ∧ Below w.heap.size w w' := by
  obtain ⟨c, hc, u1, u2, u3, u4⟩ := backU n n0 n1 l hok hl
  obtain ⟨e, he, s1, s2, s3, s4⟩ := backS n n0 n1 l hok hl
  obtain ⟨B, hB⟩ : ∃ B, B = dig (c + 1) n ++ l := ⟨_, rfl⟩
  obtain ⟨C, hC⟩ : ∃ C, C = dig (e + 1) (wrap64 n) ++ l := ⟨_, rfl⟩
  have lB : B.length = c + 1 + l.length := by rw [hB, List.length_append, dig_len]
  have lC : C.length = e + 1 + l.length := by rw [hC, List.length_append, dig_len]
  have lt1 : (B.take c).length = c := by rw [List.length_take]; omega
  have lt2 : (C.take e).length = e := by rw [List.length_take]; omega
  have u5 := u4 b b0 b1
  have s5 := s4 b b0 b1
  rw [← hB] at u2 u3 u5
  rw [← hC] at s2 s3 s5
  have U1 := Aside0.mk u1
  have U2 := Aside0.mk u2
  have U3 := Aside0.mk u3
  have U5 := Aside0.mk u5
  have S1 := Aside0.mk s1
  have S2 := Aside0.mk s2
  have S3 := Aside0.mk s3
  have S5 := Aside0.mk s5
  have HBB := Aside0.mk hB
  have HCC := Aside0.mk hC
  have LB := Aside0.mk lB
  have LC := Aside0.mk lC
  have LT1 := Aside0.mk lt1
  have LT2 := Aside0.mk lt2
  have HR := Aside0.mk hr
  have d1 : decide (100 < l.length) = false := decide_eq_false (by omega)
  clear u1 u2 u3 u4 u5 s1 s2 s3 s4 s5 hB hC lB lC lt1 lt2 hr hok
  go_enter Try.func10, Try.ntmps10
  go_wp2_with fail
  refine (awake_calls w).mono ?_
  rintro e w1 ⟨rfl, hb⟩
  have HB1 := Aside0.mk hb
  clear hb
  go_wp2_with fail
  refine (putUF_calls n _ w1 U1.out).mono ?_
  rintro e w2 ⟨v, rfl, ho, hb⟩
  have HO1 := Aside0.mk (Kd.R_lower ho HB1.out.size)
  have HB2 := Aside0.mk (below_then HB1.out HB1.out.size hb)
  clear ho hb
  go_wp2_with (at_builtin; refine Kd.R_append_rows (Kd.int .u8) (w0 := w) w.heap.size rfl (.tmp 44) (.tmp 45) 22 5 (.int .u8 0) 1 rfl Try.underlying22 info5 rfl (by decide) (by omega) v (dig (c + 1) n) l _ _ _ (fun _ => True) (fun _ => False) rfl rfl ?aO ?aR (fun _ _ h => h) (fun _ h => h.elim) ?aF ?aB ?aS ?aL ?_; (case aR => exact Kd.C_below HR.out HB2.out); (case aB => exact HB2.out); (case aF => exact (fun _ _ => trivial)); (case aO => exact HO1.out); (case aS => exact HB2.out.size); (case aL => rw [dig_len]; omega); intro v2 w3 ho hb hg hat; have HO2 := Aside0.mk ho; have HB3 := Aside0.mk hb; clear ho hb hg hat)
  have ho2 := HO2.out
  rw [← HBB.out] at ho2
  obtain ⟨A2, c2, rfl⟩ := Kd.R_slice ho2
  have RB := Aside0.mk (Kd.R_reads' ho2).2.2
  have CB : B.length ≤ c2 := (Kd.R_reads' ho2).2.1
  clear ho2 HO2 HO1
  go_wp2_with fail
  refine (putSF_calls n _ w3 S1.out).mono ?_
  rintro e_ w4 ⟨v, rfl, ho, hb⟩
  have HO3 := Aside0.mk ho
  have HB4 := Aside0.mk hb
  clear ho hb
  go_wp2_with (at_builtin; refine Kd.R_append_rows (Kd.int .u8) (w0 := w3) w3.heap.size rfl (.tmp 48) (.tmp 49) 22 5 (.int .u8 0) 1 rfl Try.underlying22 info5 rfl (by decide) (by omega) v (dig (e + 1) (wrap64 n)) l _ _ _ (fun _ => True) (fun _ => False) rfl rfl ?aO ?aR (fun _ _ h => h) (fun _ h => h.elim) ?aF ?aB ?aS ?aL ?_; (case aR => exact Kd.C_below (Kd.C_below HR.out HB3.out) HB4.out); (case aB => exact HB4.out); (case aF => exact (fun _ _ => trivial)); (case aO => exact HO3.out); (case aS => exact HB4.out.size); (case aL => rw [dig_len]; omega); intro v3 w5 ho hb hg hat; have HO4 := Aside0.mk ho; have HB5 := Aside0.mk hb; clear ho hb hg hat)
  have ho4 := HO4.out
  rw [← HCC.out] at ho4
  obtain ⟨A3, c3, rfl⟩ := Kd.R_slice ho4
  have RC := Aside0.mk (Kd.R_reads' ho4).2.2
  have CC : C.length ≤ c3 := (Kd.R_reads' ho4).2.1
  clear ho4 HO4 HO3
  have RB5 := Aside0.mk (Kd.C_below RB.out HB5.out)
  have HW5 := Aside0.mk (below_then HB3.out HB3.out.size HB5.out)
  clear RB HB5 HB4 HB3 HB2 HB1
  go_wp2_with fail
  refine (uintF_calls A2 c2 B 0 64 _ _ _ w5 RB5.out CB U2.out).mono ?_
  rintro e_ w6 ⟨rfl, hb⟩
  have RB6 := Aside0.mk (Kd.C_below RB5.out hb)
  have RC6 := Aside0.mk (Kd.C_below RC.out hb)
  have HW6 := Aside0.mk (below_then HW5.out HW5.out.size hb)
  clear hb RB5 RC HW5
  go_wp2_with fail
  refine (sintF_calls A3 c3 C 0 64 _ _ _ w6 RC6.out CC S2.out).mono ?_
  rintro e_ w7 ⟨rfl, hb⟩
  have RB7 := Aside0.mk (Kd.C_below RB6.out hb)
  have RC7 := Aside0.mk (Kd.C_below RC6.out hb)
  have HW7 := Aside0.mk (below_then HW6.out HW6.out.size hb)
  clear hb RB6 RC6 HW6
  have k1 : ((c : Int) + 1 != (B.length : Int) - (l.length : Int)) = false := by have := LB.out; rw [bne_eq_false_iff_eq]; omega
  have k2 : ((e : Int) + 1 != (C.length : Int) - (l.length : Int)) = false := by have := LC.out; rw [bne_eq_false_iff_eq]; omega
  have k3 : decide (10 < (c : Int) + 1) = false := decide_eq_false (by omega)
  have k4 : decide (10 < (e : Int) + 1) = false := decide_eq_false (by omega)
  have k5 : 0 ≤ (B.length : Int) - (l.length : Int) ∧ (B.length : Int) ≤ 1000 := by have := LB.out; omega
  have k6 : 0 ≤ (C.length : Int) - (l.length : Int) ∧ (C.length : Int) ≤ 1000 := by have := LC.out; omega
  have k7 : (c : Int) ≤ (c2 : Int) := by have := LB.out; omega
  have k8 : (e : Int) ≤ (c3 : Int) := by have := LC.out; omega
  have q1 := uintF_calls A2 c2 (B.take c) 0 64 _ _ _ w7 (Kd.C_take RB7.out (by have := LB.out; omega)) (by rw [LT1.out]; omega) U3.out
  rw [LT1.out] at q1
  have Q1 := Aside0.mk q1
  clear q1
  go_wp2_with fail
  refine Q1.out.mono ?_
  rintro e_ w8 ⟨rfl, hb⟩
  have RB8 := Aside0.mk (Kd.C_below RB7.out hb)
  have RC8 := Aside0.mk (Kd.C_below RC7.out hb)
  have HW8 := Aside0.mk (below_then HW7.out HW7.out.size hb)
  clear hb RB7 RC7 HW7 Q1
  have q1 := sintF_calls A3 c3 (C.take e) 0 64 _ _ _ w8 (Kd.C_take RC8.out (by have := LC.out; omega)) (by rw [LT2.out]; omega) S3.out
  rw [LT2.out] at q1
  have Q1 := Aside0.mk q1
  clear q1
  go_wp2_with fail
  refine Q1.out.mono ?_
  rintro e_ w9 ⟨rfl, hb⟩
  have RB9 := Aside0.mk (Kd.C_below RB8.out hb)
  have RC9 := Aside0.mk (Kd.C_below RC8.out hb)
  have HW9 := Aside0.mk (below_then HW8.out HW8.out.size hb)
  clear hb RB8 RC8 HW8 Q1
  have g1 : 0 ≤ b - 1 := by omega
  have g2 : 0 ≤ b := by omega
  by_cases c64 : b = 64
  · have hp : n < p2 b := by rw [c64]; exact n1
    have hq : -(p2 (b - 1)) ≤ wrap64 n ∧ wrap64 n < p2 (b - 1) := by
      rw [c64]
      have : p2 (64 - 1) = 9223372036854775808 := by decide
      unfold wrap64
      omega
    have ZU := Aside0.mk (U5.out.1 hp)
    have ZS := Aside0.mk (S5.out.1 hq)
    have fb : (b == 64) = true := by rw [c64]; rfl
    clear c64 hp hq
    go_wp2_with fail
    refine (uintF_calls A2 c2 B 0 b _ _ _ w9 RB9.out CB ZU.out).mono ?_
    rintro e_ w10 ⟨rfl, hb⟩
    have RC10 := Aside0.mk (Kd.C_below RC9.out hb)
    have HW10 := Aside0.mk (below_then HW9.out HW9.out.size hb)
    clear hb
    go_wp2_with fail
    refine (sintF_calls A3 c3 C 0 b _ _ _ w10 RC10.out CC ZS.out).mono ?_
    rintro e_ w11 ⟨rfl, hb⟩
    have HW11 := Aside0.mk (below_then HW10.out HW10.out.size hb)
    clear hb
    go_wp2
    go_ret
    exact ⟨rfl, HW11.out⟩
  · have fb : (b == 64) = false := by simpa using c64
    clear c64
    have e1 : (2 : Int) ^ b.toNat = p2 b := rfl
    have e2 : (2 : Int) ^ (b.toNat - 1) = p2 (b - 1) := by unfold p2; rw [show (b - 1).toNat = b.toNat - 1 from by omega]
    have pp1 := p2_pos b
    have pp2 := p2_pos (b - 1)
    have f1 : (n / 2 ^ b.toNat == 0) = decide (n < p2 b) := by
      rw [e1, Bool.eq_iff_iff]
      simp only [beq_iff_eq, decide_eq_true_eq]
      constructor
      · intro h
        have := Int.lt_mul_ediv_self_add (x := n) pp1
        rw [h] at this
        omega
      · intro h
        exact Int.ediv_eq_zero_of_lt n0 h
    have f2 : (wrap64 n / 2 ^ (b.toNat - 1) == 0) = decide (0 ≤ wrap64 n ∧ wrap64 n < p2 (b - 1)) := by
      rw [e2, Bool.eq_iff_iff]
      simp only [beq_iff_eq, decide_eq_true_eq]
      constructor
      · intro h
        have h1 := Int.lt_mul_ediv_self_add (x := wrap64 n) pp2
        have h2 := Int.mul_ediv_self_le (x := wrap64 n) (k := p2 (b - 1)) (by omega)
        rw [h] at h1 h2
        omega
      · intro h
        exact Int.ediv_eq_zero_of_lt h.1 h.2
    have f3 : (wrap64 n / 2 ^ (b.toNat - 1) == -1) = decide (-(p2 (b - 1)) ≤ wrap64 n ∧ wrap64 n < 0) := by
      rw [e2, Bool.eq_iff_iff]
      simp only [beq_iff_eq, decide_eq_true_eq]
      constructor
      · intro h
        have h1 := Int.lt_mul_ediv_self_add (x := wrap64 n) pp2
        have h2 := Int.mul_ediv_self_le (x := wrap64 n) (k := p2 (b - 1)) (by omega)
        rw [h] at h1 h2
        omega
      · intro h
        have h3 : (wrap64 n + p2 (b - 1)) / p2 (b - 1) = 0 := Int.ediv_eq_zero_of_lt (by omega) (by omega)
        have h4 := Int.add_ediv_of_dvd_right (a := wrap64 n) (b := p2 (b - 1)) (c := p2 (b - 1)) (Int.dvd_refl _)
        rw [h3, Int.ediv_self (by omega)] at h4
        omega
    clear e1 e2 pp1 pp2
    by_cases hp : n < p2 b
    · have ZU := Aside0.mk (U5.out.1 hp)
      rw [decide_eq_true hp] at f1
      clear hp
      by_cases hq : -(p2 (b - 1)) ≤ wrap64 n ∧ wrap64 n < p2 (b - 1)
      · have ZS := Aside0.mk (S5.out.1 hq)
        by_cases hs : 0 ≤ wrap64 n
        · rw [decide_eq_true ⟨hs, hq.2⟩] at f2
          clear hq hs f3
          go_wp2_with fail
          refine (uintF_calls A2 c2 B 0 b _ _ _ w9 RB9.out CB ZU.out).mono ?_
          rintro e_ w10 ⟨rfl, hb⟩
          have RC10 := Aside0.mk (Kd.C_below RC9.out hb)
          have HW10 := Aside0.mk (below_then HW9.out HW9.out.size hb)
          clear hb
          go_wp2_with fail
          refine (sintF_calls A3 c3 C 0 b _ _ _ w10 RC10.out CC ZS.out).mono ?_
          rintro e_ w11 ⟨rfl, hb⟩
          have HW11 := Aside0.mk (below_then HW10.out HW10.out.size hb)
          clear hb
          go_wp2
          go_ret
          exact ⟨rfl, HW11.out⟩
        · rw [decide_eq_false (fun h => hs h.1)] at f2
          rw [decide_eq_true ⟨hq.1, by omega⟩] at f3
          clear hq hs
          go_wp2_with fail
          refine (uintF_calls A2 c2 B 0 b _ _ _ w9 RB9.out CB ZU.out).mono ?_
          rintro e_ w10 ⟨rfl, hb⟩
          have RC10 := Aside0.mk (Kd.C_below RC9.out hb)
          have HW10 := Aside0.mk (below_then HW9.out HW9.out.size hb)
          clear hb
          go_wp2_with fail
          refine (sintF_calls A3 c3 C 0 b _ _ _ w10 RC10.out CC ZS.out).mono ?_
          rintro e_ w11 ⟨rfl, hb⟩
          have HW11 := Aside0.mk (below_then HW10.out HW10.out.size hb)
          clear hb
          go_wp2
          go_ret
          exact ⟨rfl, HW11.out⟩
      · have ZS := Aside0.mk (S5.out.2 hq)
        rw [decide_eq_false (by omega)] at f2
        rw [decide_eq_false (by omega)] at f3
        clear hq
        go_wp2_with fail
        refine (uintF_calls A2 c2 B 0 b _ _ _ w9 RB9.out CB ZU.out).mono ?_
        rintro e_ w10 ⟨rfl, hb⟩
        have RC10 := Aside0.mk (Kd.C_below RC9.out hb)
        have HW10 := Aside0.mk (below_then HW9.out HW9.out.size hb)
        clear hb
        go_wp2_with fail
        refine (sintF_calls A3 c3 C 0 b _ _ _ w10 RC10.out CC ZS.out).mono ?_
        rintro e_ w11 ⟨rfl, hb⟩
        have HW11 := Aside0.mk (below_then HW10.out HW10.out.size hb)
        clear hb
        go_wp2
        go_ret
        exact ⟨rfl, HW11.out⟩
    · have ZU := Aside0.mk (U5.out.2 (by omega))
      rw [decide_eq_false hp] at f1
      clear hp
      by_cases hq : -(p2 (b - 1)) ≤ wrap64 n ∧ wrap64 n < p2 (b - 1)
      · have ZS := Aside0.mk (S5.out.1 hq)
        by_cases hs : 0 ≤ wrap64 n
        · rw [decide_eq_true ⟨hs, hq.2⟩] at f2
          clear hq hs f3
          go_wp2_with fail
          refine (uintF_calls A2 c2 B 0 b _ _ _ w9 RB9.out CB ZU.out).mono ?_
          rintro e_ w10 ⟨rfl, hb⟩
          have RC10 := Aside0.mk (Kd.C_below RC9.out hb)
          have HW10 := Aside0.mk (below_then HW9.out HW9.out.size hb)
          clear hb
          go_wp2_with fail
          refine (sintF_calls A3 c3 C 0 b _ _ _ w10 RC10.out CC ZS.out).mono ?_
          rintro e_ w11 ⟨rfl, hb⟩
          have HW11 := Aside0.mk (below_then HW10.out HW10.out.size hb)
          clear hb
          go_wp2
          go_ret
          exact ⟨rfl, HW11.out⟩
        · rw [decide_eq_false (fun h => hs h.1)] at f2
          rw [decide_eq_true ⟨hq.1, by omega⟩] at f3
          clear hq hs
          go_wp2_with fail
          refine (uintF_calls A2 c2 B 0 b _ _ _ w9 RB9.out CB ZU.out).mono ?_
          rintro e_ w10 ⟨rfl, hb⟩
          have RC10 := Aside0.mk (Kd.C_below RC9.out hb)
          have HW10 := Aside0.mk (below_then HW9.out HW9.out.size hb)
          clear hb
          go_wp2_with fail
          refine (sintF_calls A3 c3 C 0 b _ _ _ w10 RC10.out CC ZS.out).mono ?_
          rintro e_ w11 ⟨rfl, hb⟩
          have HW11 := Aside0.mk (below_then HW10.out HW10.out.size hb)
          clear hb
          go_wp2
          go_ret
          exact ⟨rfl, HW11.out⟩
      · have ZS := Aside0.mk (S5.out.2 hq)
        rw [decide_eq_false (by omega)] at f2
        rw [decide_eq_false (by omega)] at f3
        clear hq
        go_wp2_with fail
        refine (uintF_calls A2 c2 B 0 b _ _ _ w9 RB9.out CB ZU.out).mono ?_
        rintro e_ w10 ⟨rfl, hb⟩
        have RC10 := Aside0.mk (Kd.C_below RC9.out hb)
        have HW10 := Aside0.mk (below_then HW9.out HW9.out.size hb)
        clear hb
        go_wp2_with fail
        refine (sintF_calls A3 c3 C 0 b _ _ _ w10 RC10.out CC ZS.out).mono ?_
        rintro e_ w11 ⟨rfl, hb⟩
        have HW11 := Aside0.mk (below_then HW10.out HW10.out.size hb)
        clear hb
        go_wp2
        go_ret
        exact ⟨rfl, HW11.out⟩
theorem back_walk (a0 : Int) (a1 : Option Addr) (len1 cap1 : Nat) (z1 : List Int) (a2 : Int) (w : World) (w0 : (Lit.int .u64 a0).wf = true) (w1 : (a1 = none ∧ len1 = 0 ∧ cap1 = 0 ∧ z1 = []) ∨ ∃ x, a1 = some x ∧ len1 ≤ cap1 ∧ cap1 ≤ maxLen ∧ z1.length = cap1 ∧ (∀ i, i < z1.length → w.cell? (x.add i) = some (.int .u8 (z1.getD i 0))) ∧ ∀ n ∈ z1, (Lit.int .u8 n).wf = true) :
    Calls Try.prog 10 #[.int .u64 a0, .slice a1 len1 cap1, .int .i64 a2] w fun e w' => e = .returned (.bool true) ∧ Below w.heap.size w w' := by
  obtain ⟨l1, rfl, hr1, hm1, hw1, hc1⟩ := ReadsInt.ofRowC w1
  simp only [Lit.wf, Bool.and_eq_true, decide_eq_true_eq] at w0
  have u1 : IntKind.u64.min = 0 := rfl
  have u2 : IntKind.u64.max = 18446744073709551615 := rfl
  rw [u1, u2] at w0
  by_cases h : l1.length > 100 ∨ a2 < 1 ∨ a2 > 64
  · exact back_early a0 a1 cap1 l1 a2 w h
  · exact back_main a0 a1 cap1 l1 a2 w w0.1 (by omega) (by omega) (by omega) (by omega) (Kd.C_of_reads (d := (0 : Int)) (h1 := fun _ => rfl) hr1) hc1 (Pure.okB_of_wf hw1)
end Go.Proofs.Ytjhdnlgbboboiaa.Leb
