/- bits.Div64: some two numbers. -/
import Derived.Test.YticonaahlplbjaaGreatDoorTnWide
import Derived.Test.YticonaahlplbjaaGreatDoorTnLead
import Derived.Lib.ItoaNum
namespace Go.Proofs.YticonaahlplbjaaGreatDoor.Tn
open Go.RowKit Go.Proofs.YticonaahlplbjaaGreatDoor.PTopNans Go.Proofs.YticonaahlplbjaaGreatDoorW.PrintWords Go.Proofs.YticonaahlplbjaaGreatDoorW.PrintLast Go.Proofs.YticonaahlplbjaaGreatDoorW.PrintMore
set_option linter.unusedVariables false
set_option linter.unusedSimpArgs false
theorem norm_y {y s : Int} (h : 0 < y) (h2 : y < 18446744073709551616) (hs : s = 64 - (Lib.bitLen y.toNat : Int)) : 0 ≤ s ∧ s ≤ 63 ∧ ∃ z, IntKind.u64.wrap (y * 2 ^ s.toNat) = z ∧ 9223372036854775808 ≤ z ∧ z < 18446744073709551616 := by
  obtain ⟨Y, rfl⟩ := Int.eq_ofNat_of_zero_le (Int.le_of_lt h)
  rw [Int.toNat_natCast] at hs
  obtain ⟨b1, b2, b3⟩ := Lib.bitLenAux_bounds 64 Y (by omega) (by omega)
  have b4 := Lib.bitLen_le Y 64 (by omega) (by omega)
  obtain ⟨b, hb⟩ : ∃ b, b = Lib.bitLen Y := ⟨_, rfl⟩
  have hb' : Lib.bitLenAux 64 Y = b := hb.symm
  rw [hb'] at b1 b2 b3
  rw [← hb] at hs b4
  have e : s.toNat = 64 - b := by omega
  have p1 : 2 ^ (b - 1) * 2 ^ (64 - b) = 9223372036854775808 := by rw [← Nat.pow_add, show b - 1 + (64 - b) = 63 by omega]
  have p2 : 2 ^ b * 2 ^ (64 - b) = 18446744073709551616 := by rw [← Nat.pow_add, show b + (64 - b) = 64 by omega]
  have q1 := Nat.mul_le_mul_right (2 ^ (64 - b)) b2
  have q2 := Nat.mul_lt_mul_of_pos_right b3 (Nat.pow_pos (n := 64 - b) (show 0 < 2 by decide))
  rw [p1] at q1
  rw [p2] at q2
  refine ⟨by omega, by omega, _, rfl, ?_⟩
  rw [e, show ((Y : Int) * 2 ^ (64 - b)) = ((Y * 2 ^ (64 - b) : Nat) : Int) by push_cast; rfl, IntKind.wrap_u64]
  omega
theorem rhat_lt {u a : Int} (hu : u64 u) (ha : 2147483648 ≤ a) : 0 ≤ IntKind.u64.wrap (u - IntKind.u64.wrap (IntKind.u64.wrap (u.tdiv a) * a)) ∧ IntKind.u64.wrap (u - IntKind.u64.wrap (IntKind.u64.wrap (u.tdiv a) * a)) < a := by
  obtain ⟨h0, h1⟩ := hu
  have a0 : 0 < a := by omega
  rw [Int.tdiv_eq_ediv_of_nonneg h0]
  have e := Int.mul_ediv_add_emod u a
  have m0 := Int.emod_nonneg u (show a ≠ 0 by omega)
  have m1 := Int.emod_lt_of_pos u a0
  have d0 := Int.ediv_nonneg h0 (show 0 ≤ a by omega)
  have d1 := Int.ediv_le_self a h0
  have w1 : IntKind.u64.wrap (u / a) = u / a := by rw [IntKind.wrap_u64]; omega
  rw [w1]
  rw [Int.mul_comm] at e
  obtain ⟨p, hp⟩ : ∃ p, p = u / a * a := ⟨_, rfl⟩
  rw [← hp] at e ⊢
  have w2 : IntKind.u64.wrap p = p := by
    rw [IntKind.wrap_u64]
    have : 0 ≤ p := by rw [hp]; exact Int.mul_nonneg d0 (by omega)
    omega
  rw [w2, IntKind.wrap_u64]
  omega
set_option maxRecDepth 100000 in
set_option maxHeartbeats 4000000 in
theorem Div64_calls (h l y : Int) (w : World) (hh : u64 h) (hl : u64 l) (hy : u64 y) (hyh : h < y) : Calls Tryz.prog 160 #[.int .u64 h, .int .u64 l, .int .u64 y] w fun e w' => ∃ q r, e = .returned (.tuple #[.int .u64 q, .int .u64 r]) ∧ u64 q ∧ u64 r ∧ Below w.heap.size w w' := by
  have L := Aside0.mk (fun W => Tryz.bits_LeadingZeros64 y W hy.1 (by have := hy.2; omega))
  have Y := Aside0.mk (And.intro hh (And.intro hl (And.intro hy hyh)))
  have y0 : (y == 0) = false := beq_eq_false_iff_ne.2 (by have := hh.1; omega)
  have y0' : ¬ y = 0 := by have := hh.1; omega
  have yh : decide (y ≤ h) = false := decide_eq_false (by omega)
  have yh' : (y ≤ h) = False := eq_false (by omega)
  clear hh hl hy hyh
  by_cases h0 : h = 0
  · have d : (h == 0) = true := beq_iff_eq.2 h0
    clear h0
    go_enter Tryz.func160, Tryz.ntmps160
    go_wp2
    go_quiet (fail)
    go_wp2
    refine bodyPost_ret (v := .tuple #[.int .u64 (IntKind.u64.wrap (l.tdiv y)), .int .u64 (l.tmod y)]) (by simp [results, Tryz.results160, go_sem]) rfl ?_
    exact ⟨_, _, rfl, u64_wrap _, by rw [Int.tmod_eq_emod_of_nonneg Y.out.2.1.1]; have p := Y.out.1.1; have q := Y.out.2.2.2; have r := Y.out.2.2.1.2; exact ⟨Int.emod_nonneg _ y0', by have := Int.emod_lt_of_pos l (show 0 < y by omega); omega⟩, ⟨rfl, rfl, rfl, Nat.le_refl _, fun _ _ => rfl⟩⟩
  · have d : (h == 0) = false := beq_eq_false_iff_ne.2 h0
    clear h0
    obtain ⟨s, hs⟩ : ∃ s : Int, s = 64 - (Lib.bitLen y.toNat : Int) := ⟨_, rfl⟩
    rw [← hs] at L
    obtain ⟨s0, s1, y2, hy2, k1, k2⟩ := norm_y (by have := Y.out.1.1; have := Y.out.2.2.2; omega) Y.out.2.2.1.2 hs
    have KK := Aside0.mk (And.intro k1 k2)
    have SS := Aside0.mk (And.intro s0 s1)
    clear hs k1 k2
    have ws : IntKind.u64.wrap s = s := by rw [IntKind.wrap_u64]; omega
    go_enter Tryz.func160, Tryz.ntmps160
    go_upto_region 11 with (first
      | (go_at_call 159; refine (L.out _).mono ?_; rintro e w' ⟨rfl, rfl⟩)
      | fail)
    go_cut [11] from 44 (fun s11 wc => ∃ a : Int, s11 = .int .u64 a ∧ Tn.u64 a ∧ w' = wc)
    case first =>
      go_wp2
      go_meet
      case rel => exact ⟨_, rfl, u64_bits _ _ _, rfl⟩
    obtain ⟨a11, rfl, ua, rfl⟩ := hcut
    obtain ⟨a9, h9, n1, n2⟩ : ∃ a, y2 / 4294967296 = a ∧ 2147483648 ≤ a ∧ a < 4294967296 := ⟨_, rfl, by have := KK.out; omega, by have := KK.out; omega⟩
    obtain ⟨a10, h10⟩ : ∃ a, bits .and .u64 y2 4294967295 = a := ⟨_, rfl⟩
    have N9 := Aside0.mk (And.intro n1 n2)
    have UA := Aside0.mk ua
    have z9 : (a9 == 0) = false := beq_eq_false_iff_ne.2 (by omega)
    have z9' : ¬ a9 = 0 := by omega
    clear n1 n2 ua
    go_upto_region 16 with (fail)
    go_cut [9, 10, 13, 14, 16] from 40 (fun s9 s10 s13 s14 s16 wc => ∃ a9 a10 a13 a14 r : Int, s9 = .int .u64 a9 ∧ s10 = .int .u64 a10 ∧ s13 = .int .u64 a13 ∧ s14 = .int .u64 a14 ∧ s16 = .int .u64 r ∧ 2147483648 ≤ a9 ∧ a9 < 4294967296 ∧ 0 ≤ r ∧ r < a9 ∧ w' = wc)
    case first =>
      go_wp2
      go_meet
      case rel => exact ⟨a9, _, _, _, _, (by first | rfl | (rw [h9])), rfl, rfl, rfl, rfl, N9.out.1, N9.out.2, (rhat_lt UA.out N9.out.1).1, (rhat_lt UA.out N9.out.1).2, rfl⟩
    clear h9 h10 N9 z9 z9' hy2 ws s0 s1
    obtain ⟨a9, a10, a13, a14, r0, rfl, rfl, rfl, rfl, rfl, n1, n2, r1, r2, rfl⟩ := hcut
    have N9 := Aside0.mk (And.intro n1 n2)
    have z9 : (a9 == 0) = false := beq_eq_false_iff_ne.2 (by omega)
    have z9' : ¬ a9 = 0 := by omega
    have RR := Aside0.mk (show 0 ≤ r0 ∧ r0 < 4294967296 ∧ 4294967296 - r0 ≤ ((2 : Nat) : Int) * 2147483648 by omega)
    clear r1 r2 n1 n2
    go_upto_block 0 with (fail)
    go_cut [15, 16] from 67 to 85 (fun s15 s16 wc => ∃ q r : Int, s15 = .int .u64 q ∧ s16 = .int .u64 r ∧ w' = wc)
    case first =>
      go_wp2_with (fail)
      go_loopg [15, 16] 2 (fun d v15 v16 w2 => ∃ q r : Int, v15 = .int .u64 q ∧ v16 = .int .u64 r ∧ Aside0 (0 ≤ r ∧ r < 4294967296 ∧ 4294967296 - r ≤ d * 2147483648) ∧ w' = w2)
      case atStart => exact ⟨_, _, rfl, rfl, ⟨RR.out⟩, rfl⟩
      case round =>
        obtain ⟨q, r, rfl, rfl, HD, rfl⟩ := hrel
        obtain ⟨X, hX⟩ : ∃ X, IntKind.u64.wrap (q * a10) = X := ⟨_, rfl⟩
        obtain ⟨Y, hY⟩ : ∃ Y, IntKind.u64.wrap (IntKind.u64.wrap (4294967296 * r) + a13) = Y := ⟨_, rfl⟩
        have cq : decide (4294967296 ≤ q) = true ∨ decide (4294967296 ≤ q) = false := by cases decide (4294967296 ≤ q) <;> simp
        have cx : decide (Y < X) = true ∨ decide (Y < X) = false := by cases decide (Y < X) <;> simp
        have rw1 : IntKind.u64.wrap (r + a9) = r + a9 := by rw [IntKind.wrap_u64]; have := HD.out; have := N9.out; omega
        have cr : decide (4294967296 ≤ r + a9) = true ∨ decide (4294967296 ≤ r + a9) = false := by cases decide (4294967296 ≤ r + a9) <;> simp
        obtain ⟨d, rfl⟩ : ∃ d, gk = d + 1 := ⟨gk - 1, by have := HD.out; omega⟩
        rcases cq with c | c <;> rcases cx with c2 | c2 <;> rcases cr with c3 | c3
        all_goals
          go_wp2
          first
            | (go_meet
               case rel => exact ⟨_, _, rfl, rfl, rfl⟩)
            | (go_roundg d
               case measure => omega
               case rel => exact ⟨_, _, rfl, rfl, ⟨by have := HD.out; have := N9.out; have := of_decide_eq_false c3; omega⟩, rfl⟩)
    clear RR
    obtain ⟨q1, r0, rfl, rfl, rfl⟩ := hcut
    go_upto_region 21 with (fail)
    go_cut [17] from 86 (fun s17 wc => ∃ a : Int, s17 = .int .u64 a ∧ Tn.u64 a ∧ w' = wc)
    case first =>
      go_wp2
      go_meet
      case rel => exact ⟨_, rfl, u64_wrap _, rfl⟩
    obtain ⟨a17, rfl, ua, rfl⟩ := hcut
    have UB := Aside0.mk ua
    clear ua
    go_upto_region 23 with (fail)
    go_cut [16, 18] from 94 (fun s16 s18 wc => ∃ r q : Int, s16 = .int .u64 r ∧ s18 = .int .u64 q ∧ 0 ≤ r ∧ r < a9 ∧ w' = wc)
    case first =>
      go_wp2
      go_meet
      case rel => exact ⟨_, _, rfl, rfl, (rhat_lt UB.out N9.out.1).1, (rhat_lt UB.out N9.out.1).2, rfl⟩
    obtain ⟨r0, q0, rfl, rfl, r1, r2, rfl⟩ := hcut
    have RR := Aside0.mk (show 0 ≤ r0 ∧ r0 < 4294967296 ∧ 4294967296 - r0 ≤ ((2 : Nat) : Int) * 2147483648 by have := N9.out; omega)
    clear r1 r2
    go_upto_block 2 with (fail)
    go_cut [18, 16] from 102 to 120 (fun s18 s16 wc => ∃ q r : Int, s18 = .int .u64 q ∧ s16 = .int .u64 r ∧ w' = wc)
    case first =>
      go_wp2_with (fail)
      go_loopg [18, 16] 2 (fun d v18 v16 w2 => ∃ q r : Int, v18 = .int .u64 q ∧ v16 = .int .u64 r ∧ Aside0 (0 ≤ r ∧ r < 4294967296 ∧ 4294967296 - r ≤ d * 2147483648) ∧ w' = w2)
      case atStart => exact ⟨_, _, rfl, rfl, ⟨RR.out⟩, rfl⟩
      case round =>
        obtain ⟨q, r, rfl, rfl, HD, rfl⟩ := hrel
        obtain ⟨X, hX⟩ : ∃ X, IntKind.u64.wrap (q * a10) = X := ⟨_, rfl⟩
        obtain ⟨Y, hY⟩ : ∃ Y, IntKind.u64.wrap (IntKind.u64.wrap (4294967296 * r) + a14) = Y := ⟨_, rfl⟩
        have cq : decide (4294967296 ≤ q) = true ∨ decide (4294967296 ≤ q) = false := by cases decide (4294967296 ≤ q) <;> simp
        have cx : decide (Y < X) = true ∨ decide (Y < X) = false := by cases decide (Y < X) <;> simp
        have rw1 : IntKind.u64.wrap (r + a9) = r + a9 := by rw [IntKind.wrap_u64]; have := HD.out; have := N9.out; omega
        have cr : decide (4294967296 ≤ r + a9) = true ∨ decide (4294967296 ≤ r + a9) = false := by cases decide (4294967296 ≤ r + a9) <;> simp
        obtain ⟨d, rfl⟩ : ∃ d, gk = d + 1 := ⟨gk - 1, by have := HD.out; omega⟩
        rcases cq with c | c <;> rcases cx with c2 | c2 <;> rcases cr with c3 | c3
        all_goals
          go_wp2
          first
            | (go_meet
               case rel => exact ⟨_, _, rfl, rfl, rfl⟩)
            | (go_roundg d
               case measure => omega
               case rel => exact ⟨_, _, rfl, rfl, ⟨by have := HD.out; have := N9.out; have := of_decide_eq_false c3; omega⟩, rfl⟩)
    clear RR
    obtain ⟨q2, r0, rfl, rfl, rfl⟩ := hcut
    have s0 : 0 ≤ s := SS.out.1
    have s1 : s ≤ 63 := SS.out.2
    go_wp2
    refine bodyPost_ret (v := .tuple #[.int .u64 (IntKind.u64.wrap (IntKind.u64.wrap (q1 * 4294967296) + q2)), .int .u64 (IntKind.u64.wrap (IntKind.u64.wrap (IntKind.u64.wrap (a17 * 4294967296) + a14) - IntKind.u64.wrap (q2 * y2)) / 2 ^ s.toNat)]) (by simp [results, Tryz.results160, go_sem]) rfl ?_
    exact ⟨_, _, rfl, u64_wrap _, u64_div (u64_wrap _) _, Below.refl _ _⟩
end Go.Proofs.YticonaahlplbjaaGreatDoor.Tn
