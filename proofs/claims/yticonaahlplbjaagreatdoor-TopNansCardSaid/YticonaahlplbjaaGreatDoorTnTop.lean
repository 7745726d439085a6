/- TopNans: the law answers true, whatever the opcode and the operands are. -/
import Derived.Test.YticonaahlplbjaaGreatDoorTnApply
namespace Go.Proofs.YticonaahlplbjaaGreatDoor.Tn
open Go.RowKit Go.Proofs.YticonaahlplbjaaGreatDoor.PTopNans Go.Proofs.YticonaahlplbjaaGreatDoorW.PrintWords Go.Proofs.YticonaahlplbjaaGreatDoorW.PrintLast Go.Proofs.YticonaahlplbjaaGreatDoorW.PrintMore
set_option linter.unusedVariables false
set_option linter.unusedSimpArgs false
/-- What the law answers. -/
def TopP (w : World) (e : Ending) (w' : World) : Prop := e = .returned (.bool true) ∧ Below w.heap.size w w'
theorem nan32 : isN 32 (cN 32) := by unfold isN cN; decide
theorem nan64 : isN 64 (cN 64) := by unfold isN cN; decide
theorem first_apply (w : World) : Calls Tryz.prog 4 #[.int .i64 146, .int .u64 2139095041, .int .u64 0] w fun e w' => e = .returned (.tuple #[.int .u64 2143289344, .int .i64 0]) ∧ Below w.heap.size w w' := by
  refine (Apply_double fl32 146 7 2139095041 0 w (by unfold u64; decide) u64_0 (by unfold InD; decide) (by decide)).mono ?_
  rintro e w' ⟨n, rfl, g, c, hb⟩
  rw [c (.inl (by unfold isN; decide))]
  exact ⟨rfl, hb⟩
set_option maxRecDepth 100000 in
set_option maxHeartbeats 4000000 in
theorem Top_rest (op a b : Int) (w : World) (io : i64r op) (h : op < 139 ∨ 167 ≤ op) (h1 : op ≠ 182) (h2 : op ≠ 187) : Calls Tryz.prog 3 #[.int .i64 op, .int .u64 a, .int .u64 b] w (TopP w) := by
  have A0 := Aside0.mk first_apply
  have KC := Aside0.mk (fun W => Kind_rest op W io h h1 h2)
  clear io h h1 h2
  go_enter Tryz.func3, Tryz.ntmps3
  go_upto_region 5 with (first
    | (go_at_call 4; (with_reducible refine (A0.out _).mono ?_)
       rintro e w1 ⟨rfl, hb⟩
       have HB := Aside0.mk hb
       clear hb)
    | (go_at_call 5; (with_reducible refine (KC.out _).mono ?_)
       rintro e w2 ⟨⟨i, n, o, ok, rfl, h⟩, hb⟩
       have HB := Aside0.mk (below_then HB.out HB.out.size hb)
       have QQ := Aside0.mk h
       clear hb h)
    | fail)
  cases ok
  · go_wp2
    refine bodyPost_ret (v := .bool true) (by simp [results, Tryz.results3, go_sem]) rfl ?_
    exact ⟨rfl, HB.out⟩
  · have q : NotF i o := QQ.out.resolve_left (by decide)
    rcases q with ⟨h1, h2⟩ | ⟨h1, h2⟩
    · have d1 : (o != 124) = true := bne_iff_ne.2 h1
      have d2 : (o != 125) = true := bne_iff_ne.2 h2
      clear h1 h2
      go_wp2
      refine bodyPost_ret (v := .bool true) (by simp [results, Tryz.results3, go_sem]) rfl ?_
      exact ⟨rfl, HB.out⟩
    · have d1 : (i != 124) = true := bne_iff_ne.2 h1
      have d2 : (i != 125) = true := bne_iff_ne.2 h2
      have e1 : (o != 124) = true ∨ (o != 124) = false := by cases (o != 124) <;> simp
      have e2 : (o != 125) = true ∨ (o != 125) = false := by cases (o != 125) <;> simp
      clear h1 h2
      rcases e1 with e1 | e1 <;> rcases e2 with e2 | e2
      all_goals
        go_wp2
        refine bodyPost_ret (v := .bool true) (by simp [results, Tryz.results3, go_sem]) rfl ?_
        exact ⟨rfl, HB.out⟩
set_option maxRecDepth 100000 in
set_option maxHeartbeats 4000000 in
theorem Top_139 (a b : Int) (w : World) : Calls Tryz.prog 3 #[.int .i64 139, .int .u64 a, .int .u64 b] w (TopP w) := by
  have A0 := Aside0.mk first_apply
  have KC := Aside0.mk (fun W => Kind_single (op := 139) (n := 0) (wd := 32) (by unfold InD; decide) (by decide) W)
  rw [fT_32] at KC
  go_enter Tryz.func3, Tryz.ntmps3
  go_wp2_with (first
    | (go_at_call 4; (with_reducible refine (A0.out _).mono ?_)
       rintro e w1 ⟨rfl, hb⟩
       have HB := Aside0.mk hb
       clear hb)
    | (go_at_call 5; (with_reducible refine (KC.out _).mono ?_)
       rintro e w2 ⟨rfl, hb⟩
       have HB := Aside0.mk (below_then HB.out HB.out.size hb)
       clear hb)
    | fail)
  refine bodyPost_ret (v := .bool true) (by simp [results, Tryz.results3, go_sem]) rfl ?_
  exact ⟨rfl, HB.out⟩
set_option maxRecDepth 100000 in
set_option maxHeartbeats 4000000 in
theorem Top_140 (a b : Int) (w : World) : Calls Tryz.prog 3 #[.int .i64 140, .int .u64 a, .int .u64 b] w (TopP w) := by
  have A0 := Aside0.mk first_apply
  have KC := Aside0.mk (fun W => Kind_single (op := 140) (n := 1) (wd := 32) (by unfold InD; decide) (by decide) W)
  rw [fT_32] at KC
  go_enter Tryz.func3, Tryz.ntmps3
  go_wp2_with (first
    | (go_at_call 4; (with_reducible refine (A0.out _).mono ?_)
       rintro e w1 ⟨rfl, hb⟩
       have HB := Aside0.mk hb
       clear hb)
    | (go_at_call 5; (with_reducible refine (KC.out _).mono ?_)
       rintro e w2 ⟨rfl, hb⟩
       have HB := Aside0.mk (below_then HB.out HB.out.size hb)
       clear hb)
    | fail)
  refine bodyPost_ret (v := .bool true) (by simp [results, Tryz.results3, go_sem]) rfl ?_
  exact ⟨rfl, HB.out⟩
set_option maxRecDepth 100000 in
set_option maxHeartbeats 4000000 in
theorem Top_152 (a b : Int) (w : World) : Calls Tryz.prog 3 #[.int .i64 152, .int .u64 a, .int .u64 b] w (TopP w) := by
  have A0 := Aside0.mk first_apply
  have KC := Aside0.mk (fun W => Kind_double (op := 152) (n := 13) (wd := 32) (by unfold InD; decide) (by decide) W)
  rw [fT_32] at KC
  go_enter Tryz.func3, Tryz.ntmps3
  go_wp2_with (first
    | (go_at_call 4; (with_reducible refine (A0.out _).mono ?_)
       rintro e w1 ⟨rfl, hb⟩
       have HB := Aside0.mk hb
       clear hb)
    | (go_at_call 5; (with_reducible refine (KC.out _).mono ?_)
       rintro e w2 ⟨rfl, hb⟩
       have HB := Aside0.mk (below_then HB.out HB.out.size hb)
       clear hb)
    | fail)
  refine bodyPost_ret (v := .bool true) (by simp [results, Tryz.results3, go_sem]) rfl ?_
  exact ⟨rfl, HB.out⟩
set_option maxRecDepth 100000 in
set_option maxHeartbeats 4000000 in
theorem Top_153 (a b : Int) (w : World) : Calls Tryz.prog 3 #[.int .i64 153, .int .u64 a, .int .u64 b] w (TopP w) := by
  have A0 := Aside0.mk first_apply
  have KC := Aside0.mk (fun W => Kind_single (op := 153) (n := 0) (wd := 64) (by unfold InD; decide) (by decide) W)
  rw [fT_64] at KC
  go_enter Tryz.func3, Tryz.ntmps3
  go_wp2_with (first
    | (go_at_call 4; (with_reducible refine (A0.out _).mono ?_)
       rintro e w1 ⟨rfl, hb⟩
       have HB := Aside0.mk hb
       clear hb)
    | (go_at_call 5; (with_reducible refine (KC.out _).mono ?_)
       rintro e w2 ⟨rfl, hb⟩
       have HB := Aside0.mk (below_then HB.out HB.out.size hb)
       clear hb)
    | fail)
  refine bodyPost_ret (v := .bool true) (by simp [results, Tryz.results3, go_sem]) rfl ?_
  exact ⟨rfl, HB.out⟩
set_option maxRecDepth 100000 in
set_option maxHeartbeats 4000000 in
theorem Top_154 (a b : Int) (w : World) : Calls Tryz.prog 3 #[.int .i64 154, .int .u64 a, .int .u64 b] w (TopP w) := by
  have A0 := Aside0.mk first_apply
  have KC := Aside0.mk (fun W => Kind_single (op := 154) (n := 1) (wd := 64) (by unfold InD; decide) (by decide) W)
  rw [fT_64] at KC
  go_enter Tryz.func3, Tryz.ntmps3
  go_wp2_with (first
    | (go_at_call 4; (with_reducible refine (A0.out _).mono ?_)
       rintro e w1 ⟨rfl, hb⟩
       have HB := Aside0.mk hb
       clear hb)
    | (go_at_call 5; (with_reducible refine (KC.out _).mono ?_)
       rintro e w2 ⟨rfl, hb⟩
       have HB := Aside0.mk (below_then HB.out HB.out.size hb)
       clear hb)
    | fail)
  refine bodyPost_ret (v := .bool true) (by simp [results, Tryz.results3, go_sem]) rfl ?_
  exact ⟨rfl, HB.out⟩
set_option maxRecDepth 100000 in
set_option maxHeartbeats 4000000 in
theorem Top_166 (a b : Int) (w : World) : Calls Tryz.prog 3 #[.int .i64 166, .int .u64 a, .int .u64 b] w (TopP w) := by
  have A0 := Aside0.mk first_apply
  have KC := Aside0.mk (fun W => Kind_double (op := 166) (n := 13) (wd := 64) (by unfold InD; decide) (by decide) W)
  rw [fT_64] at KC
  go_enter Tryz.func3, Tryz.ntmps3
  go_wp2_with (first
    | (go_at_call 4; (with_reducible refine (A0.out _).mono ?_)
       rintro e w1 ⟨rfl, hb⟩
       have HB := Aside0.mk hb
       clear hb)
    | (go_at_call 5; (with_reducible refine (KC.out _).mono ?_)
       rintro e w2 ⟨rfl, hb⟩
       have HB := Aside0.mk (below_then HB.out HB.out.size hb)
       clear hb)
    | fail)
  refine bodyPost_ret (v := .bool true) (by simp [results, Tryz.results3, go_sem]) rfl ?_
  exact ⟨rfl, HB.out⟩
set_option maxRecDepth 100000 in
set_option maxHeartbeats 4000000 in
theorem Top_s32 (op a b : Int) (w : World) (ua : u64 a) (ub : u64 b) (h : op ≠ 139 ∧ op ≠ 140 ∧ op ≠ 152 ∧ op ≠ 153 ∧ op ≠ 154 ∧ op ≠ 166)
    (KC : ∀ W, Calls Tryz.prog 5 #[.int .i64 op] W fun e w' => e = .returned (.tuple #[.int .u8 125, .int .i64 1, .int .u8 125, .bool true]) ∧ Below W.heap.size W w')
    (AC : ∀ W, Calls Tryz.prog 4 #[.int .i64 op, .int .u64 a, .int .u64 b] W (ApplyP W 32 (isN 32 a))) : Calls Tryz.prog 3 #[.int .i64 op, .int .u64 a, .int .u64 b] w (TopP w) := by
  have A0 := Aside0.mk first_apply
  have KC := Aside0.mk KC
  have AC := Aside0.mk AC
  have s139 : (op == 139) = false := beq_eq_false_iff_ne.2 (by omega)
  have s140 : (op == 140) = false := beq_eq_false_iff_ne.2 (by omega)
  have s152 : (op == 152) = false := beq_eq_false_iff_ne.2 (by omega)
  have s153 : (op == 153) = false := beq_eq_false_iff_ne.2 (by omega)
  have s154 : (op == 154) = false := beq_eq_false_iff_ne.2 (by omega)
  have s166 : (op == 166) = false := beq_eq_false_iff_ne.2 (by omega)
  clear h
  obtain ⟨m, hm⟩ : ∃ m, m = cN 32 := ⟨_, rfl⟩
  have NC := Aside0.mk (fun W => fl32.N W)
  have GM := Aside0.mk (show isN 32 m ∧ u64 m by rw [hm]; exact ⟨nan32, fl32.cn.1⟩)
  rw [← hm] at NC
  have UU := Aside0.mk (And.intro ua ub)
  clear ua ub
  go_enter Tryz.func3, Tryz.ntmps3
  have HM := Aside0.mk hm
  clear hm
  go_upto_region 15 with (first
    | (go_at_call 4; (with_reducible refine (A0.out _).mono ?_)
       rintro e w1 ⟨rfl, hb⟩
       have HB := Aside0.mk hb
       clear hb)
    | (go_at_call 5; (with_reducible refine (KC.out _).mono ?_)
       rintro e w2 ⟨rfl, hb⟩
       have HB := Aside0.mk (below_then HB.out HB.out.size hb)
       clear hb)
    | (go_at_call 4; (with_reducible refine (AC.out _).mono ?_)
       rintro e w3 ⟨n, rfl, g, c, hb⟩
       have HB := Aside0.mk (below_then HB.out HB.out.size hb)
       have GN := Aside0.mk g
       have CN := Aside0.mk (show isN 32 a → n = m by rw [HM.out]; exact c)
       clear hb g c)
    | fail)
  by_cases hA : isN 32 a
  · skip
    have e : n = m := CN.out hA
    clear CN GN
    subst e
    have NN := Aside0.mk (fun W => isnan_yes fl32 n W GM.out.2 GM.out.1)
    have NA := Aside0.mk (fun W => isnan_yes fl32 a W UU.out.1 hA)
    clear hA
    go_wp2_with (first
      | (go_at_call_of 6 n; refine (NN.out _).mono ?_
         rintro e w4 ⟨rfl, hb⟩
         have HB := Aside0.mk (below_then HB.out HB.out.size hb)
         clear hb)
      | (go_at_call 7; refine (NC.out _).mono ?_
         rintro e w4 ⟨rfl, hb⟩
         have HB := Aside0.mk (below_then HB.out HB.out.size hb)
         clear hb)
      | (go_at_call_of 6 a; refine (NA.out _).mono ?_
         rintro e w4 ⟨rfl, hb⟩
         have HB := Aside0.mk (below_then HB.out HB.out.size hb)
         clear hb)
      | fail)
    all_goals
      refine bodyPost_ret (v := .bool true) (by simp [results, Tryz.results3, go_sem]) rfl ?_
      exact ⟨rfl, HB.out⟩
  by_cases hN : isN 32 n
  · skip
    have e : n = m := by rw [HM.out]; exact GN.out.2.resolve_left (fun k => k hN)
    clear CN GN hN
    subst e
    have NN := Aside0.mk (fun W => isnan_yes fl32 n W GM.out.2 GM.out.1)
    have NA := Aside0.mk (fun W => isnan_no fl32 a W UU.out.1 hA)
    clear hA
    go_wp2_with (first
      | (go_at_call_of 6 n; refine (NN.out _).mono ?_
         rintro e w4 ⟨rfl, hb⟩
         have HB := Aside0.mk (below_then HB.out HB.out.size hb)
         clear hb)
      | (go_at_call 7; refine (NC.out _).mono ?_
         rintro e w4 ⟨rfl, hb⟩
         have HB := Aside0.mk (below_then HB.out HB.out.size hb)
         clear hb)
      | (go_at_call_of 6 a; refine (NA.out _).mono ?_
         rintro e w4 ⟨rfl, hb⟩
         have HB := Aside0.mk (below_then HB.out HB.out.size hb)
         clear hb)
      | fail)
    all_goals
      refine bodyPost_ret (v := .bool true) (by simp [results, Tryz.results3, go_sem]) rfl ?_
      exact ⟨rfl, HB.out⟩
  · skip
    have NN := Aside0.mk (fun W => isnan_no fl32 n W GN.out.1 hN)
    clear hN
    have NA := Aside0.mk (fun W => isnan_no fl32 a W UU.out.1 hA)
    clear hA
    go_wp2_with (first
      | (go_at_call_of 6 n; refine (NN.out _).mono ?_
         rintro e w4 ⟨rfl, hb⟩
         have HB := Aside0.mk (below_then HB.out HB.out.size hb)
         clear hb)
      | (go_at_call 7; refine (NC.out _).mono ?_
         rintro e w4 ⟨rfl, hb⟩
         have HB := Aside0.mk (below_then HB.out HB.out.size hb)
         clear hb)
      | (go_at_call_of 6 a; refine (NA.out _).mono ?_
         rintro e w4 ⟨rfl, hb⟩
         have HB := Aside0.mk (below_then HB.out HB.out.size hb)
         clear hb)
      | fail)
    all_goals
      refine bodyPost_ret (v := .bool true) (by simp [results, Tryz.results3, go_sem]) rfl ?_
      exact ⟨rfl, HB.out⟩
set_option maxRecDepth 100000 in
set_option maxHeartbeats 4000000 in
theorem Top_s64 (op a b : Int) (w : World) (ua : u64 a) (ub : u64 b) (h : op ≠ 139 ∧ op ≠ 140 ∧ op ≠ 152 ∧ op ≠ 153 ∧ op ≠ 154 ∧ op ≠ 166)
    (KC : ∀ W, Calls Tryz.prog 5 #[.int .i64 op] W fun e w' => e = .returned (.tuple #[.int .u8 124, .int .i64 1, .int .u8 124, .bool true]) ∧ Below W.heap.size W w')
    (AC : ∀ W, Calls Tryz.prog 4 #[.int .i64 op, .int .u64 a, .int .u64 b] W (ApplyP W 64 (isN 64 a))) : Calls Tryz.prog 3 #[.int .i64 op, .int .u64 a, .int .u64 b] w (TopP w) := by
  have A0 := Aside0.mk first_apply
  have KC := Aside0.mk KC
  have AC := Aside0.mk AC
  have s139 : (op == 139) = false := beq_eq_false_iff_ne.2 (by omega)
  have s140 : (op == 140) = false := beq_eq_false_iff_ne.2 (by omega)
  have s152 : (op == 152) = false := beq_eq_false_iff_ne.2 (by omega)
  have s153 : (op == 153) = false := beq_eq_false_iff_ne.2 (by omega)
  have s154 : (op == 154) = false := beq_eq_false_iff_ne.2 (by omega)
  have s166 : (op == 166) = false := beq_eq_false_iff_ne.2 (by omega)
  clear h
  obtain ⟨m, hm⟩ : ∃ m, m = cN 64 := ⟨_, rfl⟩
  have NC := Aside0.mk (fun W => fl64.N W)
  have GM := Aside0.mk (show isN 64 m ∧ u64 m by rw [hm]; exact ⟨nan64, fl64.cn.1⟩)
  rw [← hm] at NC
  have UU := Aside0.mk (And.intro ua ub)
  clear ua ub
  go_enter Tryz.func3, Tryz.ntmps3
  have HM := Aside0.mk hm
  clear hm
  go_upto_region 15 with (first
    | (go_at_call 4; (with_reducible refine (A0.out _).mono ?_)
       rintro e w1 ⟨rfl, hb⟩
       have HB := Aside0.mk hb
       clear hb)
    | (go_at_call 5; (with_reducible refine (KC.out _).mono ?_)
       rintro e w2 ⟨rfl, hb⟩
       have HB := Aside0.mk (below_then HB.out HB.out.size hb)
       clear hb)
    | (go_at_call 4; (with_reducible refine (AC.out _).mono ?_)
       rintro e w3 ⟨n, rfl, g, c, hb⟩
       have HB := Aside0.mk (below_then HB.out HB.out.size hb)
       have GN := Aside0.mk g
       have CN := Aside0.mk (show isN 64 a → n = m by rw [HM.out]; exact c)
       clear hb g c)
    | fail)
  by_cases hA : isN 64 a
  · skip
    have e : n = m := CN.out hA
    clear CN GN
    subst e
    have NN := Aside0.mk (fun W => isnan_yes fl64 n W GM.out.2 GM.out.1)
    have NA := Aside0.mk (fun W => isnan_yes fl64 a W UU.out.1 hA)
    clear hA
    go_wp2_with (first
      | (go_at_call_of 6 n; refine (NN.out _).mono ?_
         rintro e w4 ⟨rfl, hb⟩
         have HB := Aside0.mk (below_then HB.out HB.out.size hb)
         clear hb)
      | (go_at_call 7; refine (NC.out _).mono ?_
         rintro e w4 ⟨rfl, hb⟩
         have HB := Aside0.mk (below_then HB.out HB.out.size hb)
         clear hb)
      | (go_at_call_of 6 a; refine (NA.out _).mono ?_
         rintro e w4 ⟨rfl, hb⟩
         have HB := Aside0.mk (below_then HB.out HB.out.size hb)
         clear hb)
      | fail)
    all_goals
      refine bodyPost_ret (v := .bool true) (by simp [results, Tryz.results3, go_sem]) rfl ?_
      exact ⟨rfl, HB.out⟩
  by_cases hN : isN 64 n
  · skip
    have e : n = m := by rw [HM.out]; exact GN.out.2.resolve_left (fun k => k hN)
    clear CN GN hN
    subst e
    have NN := Aside0.mk (fun W => isnan_yes fl64 n W GM.out.2 GM.out.1)
    have NA := Aside0.mk (fun W => isnan_no fl64 a W UU.out.1 hA)
    clear hA
    go_wp2_with (first
      | (go_at_call_of 6 n; refine (NN.out _).mono ?_
         rintro e w4 ⟨rfl, hb⟩
         have HB := Aside0.mk (below_then HB.out HB.out.size hb)
         clear hb)
      | (go_at_call 7; refine (NC.out _).mono ?_
         rintro e w4 ⟨rfl, hb⟩
         have HB := Aside0.mk (below_then HB.out HB.out.size hb)
         clear hb)
      | (go_at_call_of 6 a; refine (NA.out _).mono ?_
         rintro e w4 ⟨rfl, hb⟩
         have HB := Aside0.mk (below_then HB.out HB.out.size hb)
         clear hb)
      | fail)
    all_goals
      refine bodyPost_ret (v := .bool true) (by simp [results, Tryz.results3, go_sem]) rfl ?_
      exact ⟨rfl, HB.out⟩
  · skip
    have NN := Aside0.mk (fun W => isnan_no fl64 n W GN.out.1 hN)
    clear hN
    have NA := Aside0.mk (fun W => isnan_no fl64 a W UU.out.1 hA)
    clear hA
    go_wp2_with (first
      | (go_at_call_of 6 n; refine (NN.out _).mono ?_
         rintro e w4 ⟨rfl, hb⟩
         have HB := Aside0.mk (below_then HB.out HB.out.size hb)
         clear hb)
      | (go_at_call 7; refine (NC.out _).mono ?_
         rintro e w4 ⟨rfl, hb⟩
         have HB := Aside0.mk (below_then HB.out HB.out.size hb)
         clear hb)
      | (go_at_call_of 6 a; refine (NA.out _).mono ?_
         rintro e w4 ⟨rfl, hb⟩
         have HB := Aside0.mk (below_then HB.out HB.out.size hb)
         clear hb)
      | fail)
    all_goals
      refine bodyPost_ret (v := .bool true) (by simp [results, Tryz.results3, go_sem]) rfl ?_
      exact ⟨rfl, HB.out⟩
set_option maxRecDepth 100000 in
set_option maxHeartbeats 4000000 in
theorem Top_d32 (op a b : Int) (w : World) (ua : u64 a) (ub : u64 b) (h : op ≠ 139 ∧ op ≠ 140 ∧ op ≠ 152 ∧ op ≠ 153 ∧ op ≠ 154 ∧ op ≠ 166)
    (KC : ∀ W, Calls Tryz.prog 5 #[.int .i64 op] W fun e w' => e = .returned (.tuple #[.int .u8 125, .int .i64 2, .int .u8 125, .bool true]) ∧ Below W.heap.size W w')
    (AC : ∀ W, Calls Tryz.prog 4 #[.int .i64 op, .int .u64 a, .int .u64 b] W (ApplyP W 32 (isN 32 a ∨ isN 32 b))) : Calls Tryz.prog 3 #[.int .i64 op, .int .u64 a, .int .u64 b] w (TopP w) := by
  have A0 := Aside0.mk first_apply
  have KC := Aside0.mk KC
  have AC := Aside0.mk AC
  have s139 : (op == 139) = false := beq_eq_false_iff_ne.2 (by omega)
  have s140 : (op == 140) = false := beq_eq_false_iff_ne.2 (by omega)
  have s152 : (op == 152) = false := beq_eq_false_iff_ne.2 (by omega)
  have s153 : (op == 153) = false := beq_eq_false_iff_ne.2 (by omega)
  have s154 : (op == 154) = false := beq_eq_false_iff_ne.2 (by omega)
  have s166 : (op == 166) = false := beq_eq_false_iff_ne.2 (by omega)
  clear h
  obtain ⟨m, hm⟩ : ∃ m, m = cN 32 := ⟨_, rfl⟩
  have NC := Aside0.mk (fun W => fl32.N W)
  have GM := Aside0.mk (show isN 32 m ∧ u64 m by rw [hm]; exact ⟨nan32, fl32.cn.1⟩)
  rw [← hm] at NC
  have UU := Aside0.mk (And.intro ua ub)
  clear ua ub
  go_enter Tryz.func3, Tryz.ntmps3
  have HM := Aside0.mk hm
  clear hm
  go_upto_region 15 with (first
    | (go_at_call 4; (with_reducible refine (A0.out _).mono ?_)
       rintro e w1 ⟨rfl, hb⟩
       have HB := Aside0.mk hb
       clear hb)
    | (go_at_call 5; (with_reducible refine (KC.out _).mono ?_)
       rintro e w2 ⟨rfl, hb⟩
       have HB := Aside0.mk (below_then HB.out HB.out.size hb)
       clear hb)
    | (go_at_call 4; (with_reducible refine (AC.out _).mono ?_)
       rintro e w3 ⟨n, rfl, g, c, hb⟩
       have HB := Aside0.mk (below_then HB.out HB.out.size hb)
       have GN := Aside0.mk g
       have CN := Aside0.mk (show isN 32 a ∨ isN 32 b → n = m by rw [HM.out]; exact c)
       clear hb g c)
    | fail)
  by_cases hA : isN 32 a
  · skip
    have e : n = m := CN.out (.inl hA)
    clear CN GN
    subst e
    have NN := Aside0.mk (fun W => isnan_yes fl32 n W GM.out.2 GM.out.1)
    have NA := Aside0.mk (fun W => isnan_yes fl32 a W UU.out.1 hA)
    clear hA
    have NB : True := trivial
    go_wp2_with (first
      | (go_at_call_of 6 n; refine (NN.out _).mono ?_
         rintro e w4 ⟨rfl, hb⟩
         have HB := Aside0.mk (below_then HB.out HB.out.size hb)
         clear hb)
      | (go_at_call 7; refine (NC.out _).mono ?_
         rintro e w4 ⟨rfl, hb⟩
         have HB := Aside0.mk (below_then HB.out HB.out.size hb)
         clear hb)
      | (go_at_call_of 6 a; refine (NA.out _).mono ?_
         rintro e w4 ⟨rfl, hb⟩
         have HB := Aside0.mk (below_then HB.out HB.out.size hb)
         clear hb)
      | (go_at_call_of 6 b; fail
         rintro e w4 ⟨rfl, hb⟩
         have HB := Aside0.mk (below_then HB.out HB.out.size hb)
         clear hb)
      | fail)
    all_goals
      refine bodyPost_ret (v := .bool true) (by simp [results, Tryz.results3, go_sem]) rfl ?_
      exact ⟨rfl, HB.out⟩
  by_cases hB : isN 32 b
  · skip
    have e : n = m := CN.out (.inr hB)
    clear CN GN
    subst e
    have NN := Aside0.mk (fun W => isnan_yes fl32 n W GM.out.2 GM.out.1)
    have NA := Aside0.mk (fun W => isnan_no fl32 a W UU.out.1 hA)
    clear hA
    have NB := Aside0.mk (fun W => isnan_yes fl32 b W UU.out.2 hB)
    clear hB
    go_wp2_with (first
      | (go_at_call_of 6 n; refine (NN.out _).mono ?_
         rintro e w4 ⟨rfl, hb⟩
         have HB := Aside0.mk (below_then HB.out HB.out.size hb)
         clear hb)
      | (go_at_call 7; refine (NC.out _).mono ?_
         rintro e w4 ⟨rfl, hb⟩
         have HB := Aside0.mk (below_then HB.out HB.out.size hb)
         clear hb)
      | (go_at_call_of 6 a; refine (NA.out _).mono ?_
         rintro e w4 ⟨rfl, hb⟩
         have HB := Aside0.mk (below_then HB.out HB.out.size hb)
         clear hb)
      | (go_at_call_of 6 b; refine (NB.out _).mono ?_
         rintro e w4 ⟨rfl, hb⟩
         have HB := Aside0.mk (below_then HB.out HB.out.size hb)
         clear hb)
      | fail)
    all_goals
      refine bodyPost_ret (v := .bool true) (by simp [results, Tryz.results3, go_sem]) rfl ?_
      exact ⟨rfl, HB.out⟩
  by_cases hN : isN 32 n
  · skip
    have e : n = m := by rw [HM.out]; exact GN.out.2.resolve_left (fun k => k hN)
    clear CN GN hN
    subst e
    have NN := Aside0.mk (fun W => isnan_yes fl32 n W GM.out.2 GM.out.1)
    have NA := Aside0.mk (fun W => isnan_no fl32 a W UU.out.1 hA)
    clear hA
    have NB := Aside0.mk (fun W => isnan_no fl32 b W UU.out.2 hB)
    clear hB
    go_wp2_with (first
      | (go_at_call_of 6 n; refine (NN.out _).mono ?_
         rintro e w4 ⟨rfl, hb⟩
         have HB := Aside0.mk (below_then HB.out HB.out.size hb)
         clear hb)
      | (go_at_call 7; refine (NC.out _).mono ?_
         rintro e w4 ⟨rfl, hb⟩
         have HB := Aside0.mk (below_then HB.out HB.out.size hb)
         clear hb)
      | (go_at_call_of 6 a; refine (NA.out _).mono ?_
         rintro e w4 ⟨rfl, hb⟩
         have HB := Aside0.mk (below_then HB.out HB.out.size hb)
         clear hb)
      | (go_at_call_of 6 b; refine (NB.out _).mono ?_
         rintro e w4 ⟨rfl, hb⟩
         have HB := Aside0.mk (below_then HB.out HB.out.size hb)
         clear hb)
      | fail)
    all_goals
      refine bodyPost_ret (v := .bool true) (by simp [results, Tryz.results3, go_sem]) rfl ?_
      exact ⟨rfl, HB.out⟩
  · skip
    have NN := Aside0.mk (fun W => isnan_no fl32 n W GN.out.1 hN)
    clear hN
    have NA := Aside0.mk (fun W => isnan_no fl32 a W UU.out.1 hA)
    clear hA
    have NB := Aside0.mk (fun W => isnan_no fl32 b W UU.out.2 hB)
    clear hB
    go_wp2_with (first
      | (go_at_call_of 6 n; refine (NN.out _).mono ?_
         rintro e w4 ⟨rfl, hb⟩
         have HB := Aside0.mk (below_then HB.out HB.out.size hb)
         clear hb)
      | (go_at_call 7; refine (NC.out _).mono ?_
         rintro e w4 ⟨rfl, hb⟩
         have HB := Aside0.mk (below_then HB.out HB.out.size hb)
         clear hb)
      | (go_at_call_of 6 a; refine (NA.out _).mono ?_
         rintro e w4 ⟨rfl, hb⟩
         have HB := Aside0.mk (below_then HB.out HB.out.size hb)
         clear hb)
      | (go_at_call_of 6 b; refine (NB.out _).mono ?_
         rintro e w4 ⟨rfl, hb⟩
         have HB := Aside0.mk (below_then HB.out HB.out.size hb)
         clear hb)
      | fail)
    all_goals
      refine bodyPost_ret (v := .bool true) (by simp [results, Tryz.results3, go_sem]) rfl ?_
      exact ⟨rfl, HB.out⟩
set_option maxRecDepth 100000 in
set_option maxHeartbeats 4000000 in
theorem Top_d64 (op a b : Int) (w : World) (ua : u64 a) (ub : u64 b) (h : op ≠ 139 ∧ op ≠ 140 ∧ op ≠ 152 ∧ op ≠ 153 ∧ op ≠ 154 ∧ op ≠ 166)
    (KC : ∀ W, Calls Tryz.prog 5 #[.int .i64 op] W fun e w' => e = .returned (.tuple #[.int .u8 124, .int .i64 2, .int .u8 124, .bool true]) ∧ Below W.heap.size W w')
    (AC : ∀ W, Calls Tryz.prog 4 #[.int .i64 op, .int .u64 a, .int .u64 b] W (ApplyP W 64 (isN 64 a ∨ isN 64 b))) : Calls Tryz.prog 3 #[.int .i64 op, .int .u64 a, .int .u64 b] w (TopP w) := by
  have A0 := Aside0.mk first_apply
  have KC := Aside0.mk KC
  have AC := Aside0.mk AC
  have s139 : (op == 139) = false := beq_eq_false_iff_ne.2 (by omega)
  have s140 : (op == 140) = false := beq_eq_false_iff_ne.2 (by omega)
  have s152 : (op == 152) = false := beq_eq_false_iff_ne.2 (by omega)
  have s153 : (op == 153) = false := beq_eq_false_iff_ne.2 (by omega)
  have s154 : (op == 154) = false := beq_eq_false_iff_ne.2 (by omega)
  have s166 : (op == 166) = false := beq_eq_false_iff_ne.2 (by omega)
  clear h
  obtain ⟨m, hm⟩ : ∃ m, m = cN 64 := ⟨_, rfl⟩
  have NC := Aside0.mk (fun W => fl64.N W)
  have GM := Aside0.mk (show isN 64 m ∧ u64 m by rw [hm]; exact ⟨nan64, fl64.cn.1⟩)
  rw [← hm] at NC
  have UU := Aside0.mk (And.intro ua ub)
  clear ua ub
  go_enter Tryz.func3, Tryz.ntmps3
  have HM := Aside0.mk hm
  clear hm
  go_upto_region 15 with (first
    | (go_at_call 4; (with_reducible refine (A0.out _).mono ?_)
       rintro e w1 ⟨rfl, hb⟩
       have HB := Aside0.mk hb
       clear hb)
    | (go_at_call 5; (with_reducible refine (KC.out _).mono ?_)
       rintro e w2 ⟨rfl, hb⟩
       have HB := Aside0.mk (below_then HB.out HB.out.size hb)
       clear hb)
    | (go_at_call 4; (with_reducible refine (AC.out _).mono ?_)
       rintro e w3 ⟨n, rfl, g, c, hb⟩
       have HB := Aside0.mk (below_then HB.out HB.out.size hb)
       have GN := Aside0.mk g
       have CN := Aside0.mk (show isN 64 a ∨ isN 64 b → n = m by rw [HM.out]; exact c)
       clear hb g c)
    | fail)
  by_cases hA : isN 64 a
  · skip
    have e : n = m := CN.out (.inl hA)
    clear CN GN
    subst e
    have NN := Aside0.mk (fun W => isnan_yes fl64 n W GM.out.2 GM.out.1)
    have NA := Aside0.mk (fun W => isnan_yes fl64 a W UU.out.1 hA)
    clear hA
    have NB : True := trivial
    go_wp2_with (first
      | (go_at_call_of 6 n; refine (NN.out _).mono ?_
         rintro e w4 ⟨rfl, hb⟩
         have HB := Aside0.mk (below_then HB.out HB.out.size hb)
         clear hb)
      | (go_at_call 7; refine (NC.out _).mono ?_
         rintro e w4 ⟨rfl, hb⟩
         have HB := Aside0.mk (below_then HB.out HB.out.size hb)
         clear hb)
      | (go_at_call_of 6 a; refine (NA.out _).mono ?_
         rintro e w4 ⟨rfl, hb⟩
         have HB := Aside0.mk (below_then HB.out HB.out.size hb)
         clear hb)
      | (go_at_call_of 6 b; fail
         rintro e w4 ⟨rfl, hb⟩
         have HB := Aside0.mk (below_then HB.out HB.out.size hb)
         clear hb)
      | fail)
    all_goals
      refine bodyPost_ret (v := .bool true) (by simp [results, Tryz.results3, go_sem]) rfl ?_
      exact ⟨rfl, HB.out⟩
  by_cases hB : isN 64 b
  · skip
    have e : n = m := CN.out (.inr hB)
    clear CN GN
    subst e
    have NN := Aside0.mk (fun W => isnan_yes fl64 n W GM.out.2 GM.out.1)
    have NA := Aside0.mk (fun W => isnan_no fl64 a W UU.out.1 hA)
    clear hA
    have NB := Aside0.mk (fun W => isnan_yes fl64 b W UU.out.2 hB)
    clear hB
    go_wp2_with (first
      | (go_at_call_of 6 n; refine (NN.out _).mono ?_
         rintro e w4 ⟨rfl, hb⟩
         have HB := Aside0.mk (below_then HB.out HB.out.size hb)
         clear hb)
      | (go_at_call 7; refine (NC.out _).mono ?_
         rintro e w4 ⟨rfl, hb⟩
         have HB := Aside0.mk (below_then HB.out HB.out.size hb)
         clear hb)
      | (go_at_call_of 6 a; refine (NA.out _).mono ?_
         rintro e w4 ⟨rfl, hb⟩
         have HB := Aside0.mk (below_then HB.out HB.out.size hb)
         clear hb)
      | (go_at_call_of 6 b; refine (NB.out _).mono ?_
         rintro e w4 ⟨rfl, hb⟩
         have HB := Aside0.mk (below_then HB.out HB.out.size hb)
         clear hb)
      | fail)
    all_goals
      refine bodyPost_ret (v := .bool true) (by simp [results, Tryz.results3, go_sem]) rfl ?_
      exact ⟨rfl, HB.out⟩
  by_cases hN : isN 64 n
  · skip
    have e : n = m := by rw [HM.out]; exact GN.out.2.resolve_left (fun k => k hN)
    clear CN GN hN
    subst e
    have NN := Aside0.mk (fun W => isnan_yes fl64 n W GM.out.2 GM.out.1)
    have NA := Aside0.mk (fun W => isnan_no fl64 a W UU.out.1 hA)
    clear hA
    have NB := Aside0.mk (fun W => isnan_no fl64 b W UU.out.2 hB)
    clear hB
    go_wp2_with (first
      | (go_at_call_of 6 n; refine (NN.out _).mono ?_
         rintro e w4 ⟨rfl, hb⟩
         have HB := Aside0.mk (below_then HB.out HB.out.size hb)
         clear hb)
      | (go_at_call 7; refine (NC.out _).mono ?_
         rintro e w4 ⟨rfl, hb⟩
         have HB := Aside0.mk (below_then HB.out HB.out.size hb)
         clear hb)
      | (go_at_call_of 6 a; refine (NA.out _).mono ?_
         rintro e w4 ⟨rfl, hb⟩
         have HB := Aside0.mk (below_then HB.out HB.out.size hb)
         clear hb)
      | (go_at_call_of 6 b; refine (NB.out _).mono ?_
         rintro e w4 ⟨rfl, hb⟩
         have HB := Aside0.mk (below_then HB.out HB.out.size hb)
         clear hb)
      | fail)
    all_goals
      refine bodyPost_ret (v := .bool true) (by simp [results, Tryz.results3, go_sem]) rfl ?_
      exact ⟨rfl, HB.out⟩
  · skip
    have NN := Aside0.mk (fun W => isnan_no fl64 n W GN.out.1 hN)
    clear hN
    have NA := Aside0.mk (fun W => isnan_no fl64 a W UU.out.1 hA)
    clear hA
    have NB := Aside0.mk (fun W => isnan_no fl64 b W UU.out.2 hB)
    clear hB
    go_wp2_with (first
      | (go_at_call_of 6 n; refine (NN.out _).mono ?_
         rintro e w4 ⟨rfl, hb⟩
         have HB := Aside0.mk (below_then HB.out HB.out.size hb)
         clear hb)
      | (go_at_call 7; refine (NC.out _).mono ?_
         rintro e w4 ⟨rfl, hb⟩
         have HB := Aside0.mk (below_then HB.out HB.out.size hb)
         clear hb)
      | (go_at_call_of 6 a; refine (NA.out _).mono ?_
         rintro e w4 ⟨rfl, hb⟩
         have HB := Aside0.mk (below_then HB.out HB.out.size hb)
         clear hb)
      | (go_at_call_of 6 b; refine (NB.out _).mono ?_
         rintro e w4 ⟨rfl, hb⟩
         have HB := Aside0.mk (below_then HB.out HB.out.size hb)
         clear hb)
      | fail)
    all_goals
      refine bodyPost_ret (v := .bool true) (by simp [results, Tryz.results3, go_sem]) rfl ?_
      exact ⟨rfl, HB.out⟩
set_option maxRecDepth 100000 in
set_option maxHeartbeats 4000000 in
theorem Top_dem (op a b : Int) (w : World) (ua : u64 a) (ub : u64 b) (h : op ≠ 139 ∧ op ≠ 140 ∧ op ≠ 152 ∧ op ≠ 153 ∧ op ≠ 154 ∧ op ≠ 166)
    (KC : ∀ W, Calls Tryz.prog 5 #[.int .i64 op] W fun e w' => e = .returned (.tuple #[.int .u8 124, .int .i64 1, .int .u8 125, .bool true]) ∧ Below W.heap.size W w')
    (AC : ∀ W, Calls Tryz.prog 4 #[.int .i64 op, .int .u64 a, .int .u64 b] W (ApplyP W 32 (isN 64 a))) : Calls Tryz.prog 3 #[.int .i64 op, .int .u64 a, .int .u64 b] w (TopP w) := by
  have A0 := Aside0.mk first_apply
  have KC := Aside0.mk KC
  have AC := Aside0.mk AC
  have s139 : (op == 139) = false := beq_eq_false_iff_ne.2 (by omega)
  have s140 : (op == 140) = false := beq_eq_false_iff_ne.2 (by omega)
  have s152 : (op == 152) = false := beq_eq_false_iff_ne.2 (by omega)
  have s153 : (op == 153) = false := beq_eq_false_iff_ne.2 (by omega)
  have s154 : (op == 154) = false := beq_eq_false_iff_ne.2 (by omega)
  have s166 : (op == 166) = false := beq_eq_false_iff_ne.2 (by omega)
  clear h
  obtain ⟨m, hm⟩ : ∃ m, m = cN 32 := ⟨_, rfl⟩
  have NC := Aside0.mk (fun W => fl32.N W)
  have GM := Aside0.mk (show isN 32 m ∧ u64 m by rw [hm]; exact ⟨nan32, fl32.cn.1⟩)
  rw [← hm] at NC
  have UU := Aside0.mk (And.intro ua ub)
  clear ua ub
  go_enter Tryz.func3, Tryz.ntmps3
  have HM := Aside0.mk hm
  clear hm
  go_upto_region 15 with (first
    | (go_at_call 4; (with_reducible refine (A0.out _).mono ?_)
       rintro e w1 ⟨rfl, hb⟩
       have HB := Aside0.mk hb
       clear hb)
    | (go_at_call 5; (with_reducible refine (KC.out _).mono ?_)
       rintro e w2 ⟨rfl, hb⟩
       have HB := Aside0.mk (below_then HB.out HB.out.size hb)
       clear hb)
    | (go_at_call 4; (with_reducible refine (AC.out _).mono ?_)
       rintro e w3 ⟨n, rfl, g, c, hb⟩
       have HB := Aside0.mk (below_then HB.out HB.out.size hb)
       have GN := Aside0.mk g
       have CN := Aside0.mk (show isN 64 a → n = m by rw [HM.out]; exact c)
       clear hb g c)
    | fail)
  by_cases hA : isN 64 a
  · skip
    have e : n = m := CN.out hA
    clear CN GN
    subst e
    have NN := Aside0.mk (fun W => isnan_yes fl32 n W GM.out.2 GM.out.1)
    have NA := Aside0.mk (fun W => isnan_yes fl64 a W UU.out.1 hA)
    clear hA
    go_wp2_with (first
      | (go_at_call_of 6 n; refine (NN.out _).mono ?_
         rintro e w4 ⟨rfl, hb⟩
         have HB := Aside0.mk (below_then HB.out HB.out.size hb)
         clear hb)
      | (go_at_call 7; refine (NC.out _).mono ?_
         rintro e w4 ⟨rfl, hb⟩
         have HB := Aside0.mk (below_then HB.out HB.out.size hb)
         clear hb)
      | (go_at_call_of 6 a; refine (NA.out _).mono ?_
         rintro e w4 ⟨rfl, hb⟩
         have HB := Aside0.mk (below_then HB.out HB.out.size hb)
         clear hb)
      | fail)
    all_goals
      refine bodyPost_ret (v := .bool true) (by simp [results, Tryz.results3, go_sem]) rfl ?_
      exact ⟨rfl, HB.out⟩
  by_cases hN : isN 32 n
  · skip
    have e : n = m := by rw [HM.out]; exact GN.out.2.resolve_left (fun k => k hN)
    clear CN GN hN
    subst e
    have NN := Aside0.mk (fun W => isnan_yes fl32 n W GM.out.2 GM.out.1)
    have NA := Aside0.mk (fun W => isnan_no fl64 a W UU.out.1 hA)
    clear hA
    go_wp2_with (first
      | (go_at_call_of 6 n; refine (NN.out _).mono ?_
         rintro e w4 ⟨rfl, hb⟩
         have HB := Aside0.mk (below_then HB.out HB.out.size hb)
         clear hb)
      | (go_at_call 7; refine (NC.out _).mono ?_
         rintro e w4 ⟨rfl, hb⟩
         have HB := Aside0.mk (below_then HB.out HB.out.size hb)
         clear hb)
      | (go_at_call_of 6 a; refine (NA.out _).mono ?_
         rintro e w4 ⟨rfl, hb⟩
         have HB := Aside0.mk (below_then HB.out HB.out.size hb)
         clear hb)
      | fail)
    all_goals
      refine bodyPost_ret (v := .bool true) (by simp [results, Tryz.results3, go_sem]) rfl ?_
      exact ⟨rfl, HB.out⟩
  · skip
    have NN := Aside0.mk (fun W => isnan_no fl32 n W GN.out.1 hN)
    clear hN
    have NA := Aside0.mk (fun W => isnan_no fl64 a W UU.out.1 hA)
    clear hA
    go_wp2_with (first
      | (go_at_call_of 6 n; refine (NN.out _).mono ?_
         rintro e w4 ⟨rfl, hb⟩
         have HB := Aside0.mk (below_then HB.out HB.out.size hb)
         clear hb)
      | (go_at_call 7; refine (NC.out _).mono ?_
         rintro e w4 ⟨rfl, hb⟩
         have HB := Aside0.mk (below_then HB.out HB.out.size hb)
         clear hb)
      | (go_at_call_of 6 a; refine (NA.out _).mono ?_
         rintro e w4 ⟨rfl, hb⟩
         have HB := Aside0.mk (below_then HB.out HB.out.size hb)
         clear hb)
      | fail)
    all_goals
      refine bodyPost_ret (v := .bool true) (by simp [results, Tryz.results3, go_sem]) rfl ?_
      exact ⟨rfl, HB.out⟩
set_option maxRecDepth 100000 in
set_option maxHeartbeats 4000000 in
theorem Top_pro (op a b : Int) (w : World) (ua : u64 a) (ub : u64 b) (h : op ≠ 139 ∧ op ≠ 140 ∧ op ≠ 152 ∧ op ≠ 153 ∧ op ≠ 154 ∧ op ≠ 166)
    (KC : ∀ W, Calls Tryz.prog 5 #[.int .i64 op] W fun e w' => e = .returned (.tuple #[.int .u8 125, .int .i64 1, .int .u8 124, .bool true]) ∧ Below W.heap.size W w')
    (AC : ∀ W, Calls Tryz.prog 4 #[.int .i64 op, .int .u64 a, .int .u64 b] W (ApplyP W 64 (isN 32 a))) : Calls Tryz.prog 3 #[.int .i64 op, .int .u64 a, .int .u64 b] w (TopP w) := by
  have A0 := Aside0.mk first_apply
  have KC := Aside0.mk KC
  have AC := Aside0.mk AC
  have s139 : (op == 139) = false := beq_eq_false_iff_ne.2 (by omega)
  have s140 : (op == 140) = false := beq_eq_false_iff_ne.2 (by omega)
  have s152 : (op == 152) = false := beq_eq_false_iff_ne.2 (by omega)
  have s153 : (op == 153) = false := beq_eq_false_iff_ne.2 (by omega)
  have s154 : (op == 154) = false := beq_eq_false_iff_ne.2 (by omega)
  have s166 : (op == 166) = false := beq_eq_false_iff_ne.2 (by omega)
  clear h
  obtain ⟨m, hm⟩ : ∃ m, m = cN 64 := ⟨_, rfl⟩
  have NC := Aside0.mk (fun W => fl64.N W)
  have GM := Aside0.mk (show isN 64 m ∧ u64 m by rw [hm]; exact ⟨nan64, fl64.cn.1⟩)
  rw [← hm] at NC
  have UU := Aside0.mk (And.intro ua ub)
  clear ua ub
  go_enter Tryz.func3, Tryz.ntmps3
  have HM := Aside0.mk hm
  clear hm
  go_upto_region 15 with (first
    | (go_at_call 4; (with_reducible refine (A0.out _).mono ?_)
       rintro e w1 ⟨rfl, hb⟩
       have HB := Aside0.mk hb
       clear hb)
    | (go_at_call 5; (with_reducible refine (KC.out _).mono ?_)
       rintro e w2 ⟨rfl, hb⟩
       have HB := Aside0.mk (below_then HB.out HB.out.size hb)
       clear hb)
    | (go_at_call 4; (with_reducible refine (AC.out _).mono ?_)
       rintro e w3 ⟨n, rfl, g, c, hb⟩
       have HB := Aside0.mk (below_then HB.out HB.out.size hb)
       have GN := Aside0.mk g
       have CN := Aside0.mk (show isN 32 a → n = m by rw [HM.out]; exact c)
       clear hb g c)
    | fail)
  by_cases hA : isN 32 a
  · skip
    have e : n = m := CN.out hA
    clear CN GN
    subst e
    have NN := Aside0.mk (fun W => isnan_yes fl64 n W GM.out.2 GM.out.1)
    have NA := Aside0.mk (fun W => isnan_yes fl32 a W UU.out.1 hA)
    clear hA
    go_wp2_with (first
      | (go_at_call_of 6 n; refine (NN.out _).mono ?_
         rintro e w4 ⟨rfl, hb⟩
         have HB := Aside0.mk (below_then HB.out HB.out.size hb)
         clear hb)
      | (go_at_call 7; refine (NC.out _).mono ?_
         rintro e w4 ⟨rfl, hb⟩
         have HB := Aside0.mk (below_then HB.out HB.out.size hb)
         clear hb)
      | (go_at_call_of 6 a; refine (NA.out _).mono ?_
         rintro e w4 ⟨rfl, hb⟩
         have HB := Aside0.mk (below_then HB.out HB.out.size hb)
         clear hb)
      | fail)
    all_goals
      refine bodyPost_ret (v := .bool true) (by simp [results, Tryz.results3, go_sem]) rfl ?_
      exact ⟨rfl, HB.out⟩
  by_cases hN : isN 64 n
  · skip
    have e : n = m := by rw [HM.out]; exact GN.out.2.resolve_left (fun k => k hN)
    clear CN GN hN
    subst e
    have NN := Aside0.mk (fun W => isnan_yes fl64 n W GM.out.2 GM.out.1)
    have NA := Aside0.mk (fun W => isnan_no fl32 a W UU.out.1 hA)
    clear hA
    go_wp2_with (first
      | (go_at_call_of 6 n; refine (NN.out _).mono ?_
         rintro e w4 ⟨rfl, hb⟩
         have HB := Aside0.mk (below_then HB.out HB.out.size hb)
         clear hb)
      | (go_at_call 7; refine (NC.out _).mono ?_
         rintro e w4 ⟨rfl, hb⟩
         have HB := Aside0.mk (below_then HB.out HB.out.size hb)
         clear hb)
      | (go_at_call_of 6 a; refine (NA.out _).mono ?_
         rintro e w4 ⟨rfl, hb⟩
         have HB := Aside0.mk (below_then HB.out HB.out.size hb)
         clear hb)
      | fail)
    all_goals
      refine bodyPost_ret (v := .bool true) (by simp [results, Tryz.results3, go_sem]) rfl ?_
      exact ⟨rfl, HB.out⟩
  · skip
    have NN := Aside0.mk (fun W => isnan_no fl64 n W GN.out.1 hN)
    clear hN
    have NA := Aside0.mk (fun W => isnan_no fl32 a W UU.out.1 hA)
    clear hA
    go_wp2_with (first
      | (go_at_call_of 6 n; refine (NN.out _).mono ?_
         rintro e w4 ⟨rfl, hb⟩
         have HB := Aside0.mk (below_then HB.out HB.out.size hb)
         clear hb)
      | (go_at_call 7; refine (NC.out _).mono ?_
         rintro e w4 ⟨rfl, hb⟩
         have HB := Aside0.mk (below_then HB.out HB.out.size hb)
         clear hb)
      | (go_at_call_of 6 a; refine (NA.out _).mono ?_
         rintro e w4 ⟨rfl, hb⟩
         have HB := Aside0.mk (below_then HB.out HB.out.size hb)
         clear hb)
      | fail)
    all_goals
      refine bodyPost_ret (v := .bool true) (by simp [results, Tryz.results3, go_sem]) rfl ?_
      exact ⟨rfl, HB.out⟩
/-- TopNans answers true. -/
theorem top_walk (op a b : Int) (w : World) (io : i64r op) (ua : u64 a) (ub : u64 b) : Calls Tryz.prog 3 #[.int .i64 op, .int .u64 a, .int .u64 b] w (TopP w) := by
  by_cases c0 : op < 139 ∨ 167 ≤ op
  · by_cases c1 : op = 182
    · subst c1
      exact Top_dem 182 a b w ua ub (by decide) Kind_182 (fun W => Apply_182 a b W ua ub)
    by_cases c2 : op = 187
    · subst c2
      exact Top_pro 187 a b w ua ub (by decide) Kind_187 (fun W => Apply_187 a b W ua ub)
    exact Top_rest op a b w io c0 c1 c2
  by_cases s1 : op = 139
  · subst s1; exact Top_139 a b w
  by_cases s2 : op = 140
  · subst s2; exact Top_140 a b w
  by_cases s3 : op = 152
  · subst s3; exact Top_152 a b w
  by_cases s4 : op = 153
  · subst s4; exact Top_153 a b w
  by_cases s5 : op = 154
  · subst s5; exact Top_154 a b w
  by_cases s6 : op = 166
  · subst s6; exact Top_166 a b w
  have hs : op ≠ 139 ∧ op ≠ 140 ∧ op ≠ 152 ∧ op ≠ 153 ∧ op ≠ 154 ∧ op ≠ 166 := ⟨s1, s2, s3, s4, s5, s6⟩
  by_cases d : op < 153
  · have hd : InD op (op - 139) 32 := .inl ⟨by omega, d, rfl, rfl⟩
    by_cases e : op - 139 < 7
    · exact Top_s32 op a b w ua ub hs (fun W => Kind_single hd e W) (fun W => Apply_single fl32 op _ a b W ua ub hd ⟨by omega, e⟩)
    · exact Top_d32 op a b w ua ub hs (fun W => Kind_double hd e W) (fun W => Apply_double fl32 op _ a b W ua ub hd (by omega))
  · have hd : InD op (op - 139 - 14) 64 := .inr ⟨by omega, by omega, rfl, rfl⟩
    by_cases e : op - 139 - 14 < 7
    · exact Top_s64 op a b w ua ub hs (fun W => Kind_single hd e W) (fun W => Apply_single fl64 op _ a b W ua ub hd ⟨by omega, e⟩)
    · exact Top_d64 op a b w ua ub hs (fun W => Kind_double hd e W) (fun W => Apply_double fl64 op _ a b W ua ub hd (by omega))
end Go.Proofs.YticonaahlplbjaaGreatDoor.Tn
