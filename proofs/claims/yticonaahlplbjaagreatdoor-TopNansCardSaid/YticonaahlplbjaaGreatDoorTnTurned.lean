/- numeric.turned. -/
import Derived.Test.YticonaahlplbjaaGreatDoorTnFind
namespace Go.Proofs.YticonaahlplbjaaGreatDoor.Tn
open Go.RowKit Go.Proofs.YticonaahlplbjaaGreatDoor.PTopNans Go.Proofs.YticonaahlplbjaaGreatDoorW.PrintWords Go.Proofs.YticonaahlplbjaaGreatDoorW.PrintLast Go.Proofs.YticonaahlplbjaaGreatDoorW.PrintMore
set_option linter.unusedVariables false
set_option linter.unusedSimpArgs false
theorem integer_any (wd : Int) (w : World) : Calls Tryz.prog 20 #[.int .i64 wd] w fun e w' => (∃ r, e = .returned (.int .u8 r) ∧ (r = 126 ∨ r = 127)) ∧ w' = w := by
  refine (integer_calls wd w).mono ?_
  rintro e w' ⟨⟨r, rfl, h1, h2⟩, rfl⟩
  refine ⟨⟨r, rfl, ?_⟩, rfl⟩
  by_cases h : wd = 32
  · exact .inr (h1 h)
  · exact .inl (h2 h)
theorem float_any (wd : Int) (w : World) : Calls Tryz.prog 21 #[.int .i64 wd] w fun e w' => (∃ r, e = .returned (.int .u8 r) ∧ (r = 124 ∨ r = 125)) ∧ w' = w := by
  refine (float_calls wd w).mono ?_
  rintro e w' ⟨⟨r, rfl, h1, h2⟩, rfl⟩
  refine ⟨⟨r, rfl, ?_⟩, rfl⟩
  by_cases h : wd = 32
  · exact .inr (h1 h)
  · exact .inl (h2 h)
/-- One type in, one out, and not both of floats. -/
def NotF (i o : Int) : Prop := (o ≠ 124 ∧ o ≠ 125) ∨ (i ≠ 124 ∧ i ≠ 125)
theorem notF_i {i o : Int} (h : i = 126 ∨ i = 127) : NotF i o := by unfold NotF; omega
theorem notF_o {i o : Int} (h : o = 126 ∨ o = 127) : NotF i o := by unfold NotF; omega
set_option maxRecDepth 100000 in
set_option maxHeartbeats 4000000 in
theorem turned_0 (n : Int) (w : World) (h : n = 0) : Calls Tryz.prog 22 #[.int .i64 n] w fun e w' => (∃ i o, e = .returned (.tuple #[.int .u8 i, .int .u8 o]) ∧ NotF i o) ∧ w' = w := by
  have d0 : (n == 0) = true := beq_iff_eq.2 (by omega)
  clear h
  go_enter Tryz.func22, Tryz.ntmps22
  go_wp2_with (first
    | (go_at_call 20; refine (integer_any _ _).mono ?_
       rintro e w' ⟨⟨a, rfl, ha⟩, rfl⟩
       have HA := Aside0.mk ha
       clear ha)
    | (go_at_call 21; refine (float_any _ _).mono ?_
       rintro e w' ⟨⟨b, rfl, hb⟩, rfl⟩
       have HF := Aside0.mk hb
       clear hb)
    | fail)
  refine bodyPost_ret (v := .tuple #[.int .u8 126, .int .u8 127]) (by simp [results, Tryz.results22, go_sem]) rfl ?_
  exact ⟨⟨_, _, rfl, notF_o (.inr rfl)⟩, rfl⟩
set_option maxRecDepth 100000 in
set_option maxHeartbeats 4000000 in
theorem turned_1 (n : Int) (w : World) (h : 0 < n ∧ n ≤ 4) : Calls Tryz.prog 22 #[.int .i64 n] w fun e w' => (∃ i o, e = .returned (.tuple #[.int .u8 i, .int .u8 o]) ∧ NotF i o) ∧ w' = w := by
  have d0 : (n == 0) = false := beq_eq_false_iff_ne.2 (by omega)
  have d1 : decide (n ≤ 4) = true := decide_eq_true (by omega)
  clear h
  go_enter Tryz.func22, Tryz.ntmps22
  go_wp2_with (first
    | (go_at_call 20; refine (integer_any _ _).mono ?_
       rintro e w' ⟨⟨a, rfl, ha⟩, rfl⟩
       have HA := Aside0.mk ha
       clear ha)
    | (go_at_call 21; refine (float_any _ _).mono ?_
       rintro e w' ⟨⟨b, rfl, hb⟩, rfl⟩
       have HF := Aside0.mk hb
       clear hb)
    | fail)
  refine bodyPost_ret (v := .tuple #[.int .u8 b, .int .u8 127]) (by simp [results, Tryz.results22, go_sem]) rfl ?_
  exact ⟨⟨_, _, rfl, notF_o (.inr rfl)⟩, rfl⟩
set_option maxRecDepth 100000 in
set_option maxHeartbeats 4000000 in
theorem turned_2 (n : Int) (w : World) (h : 4 < n ∧ n ≤ 6) : Calls Tryz.prog 22 #[.int .i64 n] w fun e w' => (∃ i o, e = .returned (.tuple #[.int .u8 i, .int .u8 o]) ∧ NotF i o) ∧ w' = w := by
  have d0 : (n == 0) = false := beq_eq_false_iff_ne.2 (by omega)
  have d1 : decide (n ≤ 4) = false := decide_eq_false (by omega)
  have d2 : decide (n ≤ 6) = true := decide_eq_true (by omega)
  clear h
  go_enter Tryz.func22, Tryz.ntmps22
  go_wp2_with (first
    | (go_at_call 20; refine (integer_any _ _).mono ?_
       rintro e w' ⟨⟨a, rfl, ha⟩, rfl⟩
       have HA := Aside0.mk ha
       clear ha)
    | (go_at_call 21; refine (float_any _ _).mono ?_
       rintro e w' ⟨⟨b, rfl, hb⟩, rfl⟩
       have HF := Aside0.mk hb
       clear hb)
    | fail)
  refine bodyPost_ret (v := .tuple #[.int .u8 127, .int .u8 126]) (by simp [results, Tryz.results22, go_sem]) rfl ?_
  exact ⟨⟨_, _, rfl, notF_o (.inl rfl)⟩, rfl⟩
set_option maxRecDepth 100000 in
set_option maxHeartbeats 4000000 in
theorem turned_3 (n : Int) (w : World) (h : 6 < n ∧ n ≤ 10) : Calls Tryz.prog 22 #[.int .i64 n] w fun e w' => (∃ i o, e = .returned (.tuple #[.int .u8 i, .int .u8 o]) ∧ NotF i o) ∧ w' = w := by
  have d0 : (n == 0) = false := beq_eq_false_iff_ne.2 (by omega)
  have d1 : decide (n ≤ 4) = false := decide_eq_false (by omega)
  have d2 : decide (n ≤ 6) = false := decide_eq_false (by omega)
  have d3 : decide (n ≤ 10) = true := decide_eq_true (by omega)
  clear h
  go_enter Tryz.func22, Tryz.ntmps22
  go_wp2_with (first
    | (go_at_call 20; refine (integer_any _ _).mono ?_
       rintro e w' ⟨⟨a, rfl, ha⟩, rfl⟩
       have HA := Aside0.mk ha
       clear ha)
    | (go_at_call 21; refine (float_any _ _).mono ?_
       rintro e w' ⟨⟨b, rfl, hb⟩, rfl⟩
       have HF := Aside0.mk hb
       clear hb)
    | fail)
  refine bodyPost_ret (v := .tuple #[.int .u8 b, .int .u8 126]) (by simp [results, Tryz.results22, go_sem]) rfl ?_
  exact ⟨⟨_, _, rfl, notF_o (.inl rfl)⟩, rfl⟩
set_option maxRecDepth 100000 in
set_option maxHeartbeats 4000000 in
theorem turned_4 (n : Int) (w : World) (h : 10 < n ∧ n ≤ 19 ∧ n ≠ 15) : Calls Tryz.prog 22 #[.int .i64 n] w fun e w' => (∃ i o, e = .returned (.tuple #[.int .u8 i, .int .u8 o]) ∧ NotF i o) ∧ w' = w := by
  have d0 : (n == 0) = false := beq_eq_false_iff_ne.2 (by omega)
  have d1 : decide (n ≤ 4) = false := decide_eq_false (by omega)
  have d2 : decide (n ≤ 6) = false := decide_eq_false (by omega)
  have d3 : decide (n ≤ 10) = false := decide_eq_false (by omega)
  have d4 : (n == 15) = false := beq_eq_false_iff_ne.2 (by omega)
  have d5 : (n == 20) = false := beq_eq_false_iff_ne.2 (by omega)
  have d6 : decide (n ≤ 19) = true := decide_eq_true (by omega)
  clear h
  go_enter Tryz.func22, Tryz.ntmps22
  go_wp2_with (first
    | (go_at_call 20; refine (integer_any _ _).mono ?_
       rintro e w' ⟨⟨a, rfl, ha⟩, rfl⟩
       have HA := Aside0.mk ha
       clear ha)
    | (go_at_call 21; refine (float_any _ _).mono ?_
       rintro e w' ⟨⟨b, rfl, hb⟩, rfl⟩
       have HF := Aside0.mk hb
       clear hb)
    | fail)
  refine bodyPost_ret (v := .tuple #[.int .u8 a, .int .u8 b]) (by simp [results, Tryz.results22, go_sem]) rfl ?_
  exact ⟨⟨_, _, rfl, notF_i HA.out⟩, rfl⟩
set_option maxRecDepth 100000 in
set_option maxHeartbeats 4000000 in
theorem turned_5 (n : Int) (w : World) (h : 20 < n ∧ n ≤ 22) : Calls Tryz.prog 22 #[.int .i64 n] w fun e w' => (∃ i o, e = .returned (.tuple #[.int .u8 i, .int .u8 o]) ∧ NotF i o) ∧ w' = w := by
  have d0 : (n == 0) = false := beq_eq_false_iff_ne.2 (by omega)
  have d1 : decide (n ≤ 4) = false := decide_eq_false (by omega)
  have d2 : decide (n ≤ 6) = false := decide_eq_false (by omega)
  have d3 : decide (n ≤ 10) = false := decide_eq_false (by omega)
  have d4 : (n == 15) = false := beq_eq_false_iff_ne.2 (by omega)
  have d5 : (n == 20) = false := beq_eq_false_iff_ne.2 (by omega)
  have d6 : decide (n ≤ 19) = false := decide_eq_false (by omega)
  have d7 : decide (n ≤ 22) = true := decide_eq_true (by omega)
  clear h
  go_enter Tryz.func22, Tryz.ntmps22
  go_wp2_with (first
    | (go_at_call 20; refine (integer_any _ _).mono ?_
       rintro e w' ⟨⟨a, rfl, ha⟩, rfl⟩
       have HA := Aside0.mk ha
       clear ha)
    | (go_at_call 21; refine (float_any _ _).mono ?_
       rintro e w' ⟨⟨b, rfl, hb⟩, rfl⟩
       have HF := Aside0.mk hb
       clear hb)
    | fail)
  refine bodyPost_ret (v := .tuple #[.int .u8 b, .int .u8 a]) (by simp [results, Tryz.results22, go_sem]) rfl ?_
  exact ⟨⟨_, _, rfl, notF_o HA.out⟩, rfl⟩
set_option maxRecDepth 100000 in
set_option maxHeartbeats 4000000 in
theorem turned_6 (n : Int) (w : World) (h : 22 < n) : Calls Tryz.prog 22 #[.int .i64 n] w fun e w' => (∃ i o, e = .returned (.tuple #[.int .u8 i, .int .u8 o]) ∧ NotF i o) ∧ w' = w := by
  have d0 : (n == 0) = false := beq_eq_false_iff_ne.2 (by omega)
  have d1 : decide (n ≤ 4) = false := decide_eq_false (by omega)
  have d2 : decide (n ≤ 6) = false := decide_eq_false (by omega)
  have d3 : decide (n ≤ 10) = false := decide_eq_false (by omega)
  have d4 : (n == 15) = false := beq_eq_false_iff_ne.2 (by omega)
  have d5 : (n == 20) = false := beq_eq_false_iff_ne.2 (by omega)
  have d6 : decide (n ≤ 19) = false := decide_eq_false (by omega)
  have d7 : decide (n ≤ 22) = false := decide_eq_false (by omega)
  clear h
  go_enter Tryz.func22, Tryz.ntmps22
  go_wp2_with (first
    | (go_at_call 20; refine (integer_any _ _).mono ?_
       rintro e w' ⟨⟨a, rfl, ha⟩, rfl⟩
       have HA := Aside0.mk ha
       clear ha)
    | (go_at_call 21; refine (float_any _ _).mono ?_
       rintro e w' ⟨⟨b, rfl, hb⟩, rfl⟩
       have HF := Aside0.mk hb
       clear hb)
    | fail)
  refine bodyPost_ret (v := .tuple #[.int .u8 a, .int .u8 b]) (by simp [results, Tryz.results22, go_sem]) rfl ?_
  exact ⟨⟨_, _, rfl, notF_i HA.out⟩, rfl⟩
theorem turned_calls (n : Int) (w : World) (h : 0 ≤ n ∧ n ≤ 24 ∧ n ≠ 15 ∧ n ≠ 20) : Calls Tryz.prog 22 #[.int .i64 n] w fun e w' => (∃ i o, e = .returned (.tuple #[.int .u8 i, .int .u8 o]) ∧ NotF i o) ∧ w' = w := by
  by_cases h0 : n = 0
  · exact turned_0 n w h0
  by_cases h1 : 0 < n ∧ n ≤ 4
  · exact turned_1 n w h1
  by_cases h2 : 4 < n ∧ n ≤ 6
  · exact turned_2 n w h2
  by_cases h3 : 6 < n ∧ n ≤ 10
  · exact turned_3 n w h3
  by_cases h4 : 10 < n ∧ n ≤ 19 ∧ n ≠ 15
  · exact turned_4 n w h4
  by_cases h5 : 20 < n ∧ n ≤ 22
  · exact turned_5 n w h5
  by_cases h6 : 22 < n
  · exact turned_6 n w h6
  omega
set_option maxRecDepth 100000 in
set_option maxHeartbeats 4000000 in
theorem turned_at15 (w : World) : Calls Tryz.prog 22 #[.int .i64 15] w fun e w' => e = .returned (.tuple #[.int .u8 124, .int .u8 125]) ∧ w' = w := by
  go_enter Tryz.func22, Tryz.ntmps22
  go_wp2
  refine bodyPost_ret (v := .tuple #[.int .u8 124, .int .u8 125]) (by simp [results, Tryz.results22, go_sem]) rfl ?_
  exact ⟨rfl, rfl⟩
set_option maxRecDepth 100000 in
set_option maxHeartbeats 4000000 in
theorem turned_at20 (w : World) : Calls Tryz.prog 22 #[.int .i64 20] w fun e w' => e = .returned (.tuple #[.int .u8 125, .int .u8 124]) ∧ w' = w := by
  go_enter Tryz.func22, Tryz.ntmps22
  go_wp2
  refine bodyPost_ret (v := .tuple #[.int .u8 125, .int .u8 124]) (by simp [results, Tryz.results22, go_sem]) rfl ?_
  exact ⟨rfl, rfl⟩
end Go.Proofs.YticonaahlplbjaaGreatDoor.Tn
