/- The law OperandPlays: it returns true. -/
import Derived.Test.YtkpjdkmggbelfaaOpStep
import Derived.Deep.RegionHeld
namespace Go
theorem wpAnyH_mono {P : Program} {md : Region.Mode} {ops : Array Oper} {Q : Exit → Act → World → Prop} {S S' : World → Prop} (hS : ∀ w, S' w → S w) : ∀ (fuel : Nat) (listed : Array Bool) (a : Act) (w : World), wpAnyH P md ops Q S' fuel listed a w → wpAnyH P md ops Q S fuel listed a w
  | 0, _, _, _, h => h
  | fuel + 1, _, _, _, h => ⟨h.1, fun i hi => wpOp_mono (fun a' w' h' => ⟨hS w' h'.1, wpAnyH_mono hS fuel _ a' w' h'.2⟩) (h.2 i hi)⟩
end Go
namespace Go.Proofs.Ytkpjdkmggbelfaa.Operand
open Go.RowKit Go.Proofs.YtkpjdkmggbelfaaW.PrintWords Go.Proofs.YtkpjdkmggbelfaaW.PrintLast Go.Proofs.YtkpjdkmggbelfaaW.PrintMore Go.Proofs.Ytkpjdkmggbelfaa.Mem Go.Proofs.Ytkpjdkmggbelfaa.POperandNone
set_option linter.unusedVariables false
set_option linter.unusedSimpArgs false
def stepM (fs : List Fr) (X : S133) : List Fr :=
  if X.f0 = 1 then openM fs X.f1 X.f2 else if X.f0 = 2 then (closeM fs).2.2 else if X.f0 = 3 then pushM fs X.f1 else if X.f0 = 4 then (popM fs X.f3).2.2 else if X.f0 = 5 then (takeM fs X.f1.reverse).2 else if X.f0 = 6 then killM fs else fs
theorem stepM_small {K : Nat} {fs : List Fr} (X : S133) (h : Small K fs) (h1 : X.f1.length ≤ 50) (h2 : X.f2.length ≤ 50) : Small (K + 50) (stepM fs X) := by
  unfold stepM
  repeat' split
  · exact openM_small h h1 h2 (by omega)
  · exact (closeM_small h).mono (by omega)
  · exact pushM_small h h1
  · exact (popM_small _ h).mono (by omega)
  · exact (takeM_small _ h).mono (by omega)
  · exact (killM_small h).mono (by omega)
  · exact h.mono (by omega)
section
variable {base : Nat} {w : World} {g1 g2 : Nat} {fs : List Fr} {P : Nat → Prop}
theorem step_calls (h : Pair base w g1 g2 fs fs P P) (hs : Small 1000000 fs) (X : S133) (A1 A2 : Option Addr) (c1 c2 : Nat) (r1 : Came base w A1 X.f1) (m1 : X.f1.length ≤ c1) (n1 : X.f1.length ≤ 50) (r2 : Came base w A2 X.f2) (m2 : X.f2.length ≤ c2) (n2 : X.f2.length ≤ 50) (u0 : 0 ≤ X.f4) (u1 : X.f4 < 4294967296) :
    Calls Try.prog 45 #[.pointer (some ⟨g1, 0, none⟩), .pointer (some ⟨g2, 0, none⟩), .agg #[.int .i64 X.f0, .slice A1 X.f1.length c1, .slice A2 X.f2.length c2, .int .u8 X.f3, .int .u32 X.f4]] w (StepDid base w g1 g2 P (stepM fs X)) := by
  obtain ⟨kd, l1, l2, x3, x4⟩ := X
  simp only [stepM] at r1 m1 n1 r2 m2 n2 u0 u1 ⊢
  by_cases e1 : kd = 1
  · subst e1
    exact step_1 h hs l1 l2 A1 A2 c1 c2 x3 x4 r1 m1 n1 r2 m2 n2 u0 u1
  by_cases e2 : kd = 2
  · subst e2
    exact step_2 h hs l1 l2 A1 A2 c1 c2 x3 x4 r1 m1 n1 r2 m2 n2 u0 u1
  by_cases e3 : kd = 3
  · subst e3
    exact step_3 h hs l1 l2 A1 A2 c1 c2 x3 x4 r1 m1 n1 r2 m2 n2 u0 u1
  by_cases e4 : kd = 4
  · subst e4
    exact step_4 h hs l1 l2 A1 A2 c1 c2 x3 x4 r1 m1 n1 r2 m2 n2 u0 u1
  by_cases e5 : kd = 5
  · subst e5
    exact step_5 h hs l1 l2 A1 A2 c1 c2 x3 x4 r1 m1 n1 r2 m2 n2 u0 u1
  by_cases e6 : kd = 6
  · subst e6
    exact step_6 h hs l1 l2 A1 A2 c1 c2 x3 x4 r1 m1 n1 r2 m2 n2 u0 u1
  rw [if_neg e1, if_neg e2, if_neg e3, if_neg e4, if_neg e5, if_neg e6]
  by_cases e7 : kd = 7
  · subst e7
    exact step_7 h hs l1 l2 A1 A2 c1 c2 x3 x4 r1 m1 n1 r2 m2 n2 u0 u1
  exact step_0 kd ⟨e1, e2, e3, e4, e5, e6, e7⟩ h hs l1 l2 A1 A2 c1 c2 x3 x4 r1 m1 n1 r2 m2 n2 u0 u1
theorem pair_new (h : Has base w g1 []) : Pair base (w.alloc (.cells #[.slice none 0 0] 131)) g1 w.heap.size [] [] (fun _ => False) (fun _ => False) := by
  obtain ⟨tag, v, cells, a⟩ := h
  have hb := below_alloc (Below.refl w.heap.size w) (.cells #[.slice none 0 0] 131)
  refine ⟨tag, v, cells, fun k => if k = w.heap.size then 1 else 0, .slice none 0 0, [], a.below hb, ⟨fun k hk => ?_, heap_alloc_new w _, by simp, (fun b hb => by cases hb), Loose.nil _ _ _, fun j f hj => by simp at hj⟩, fun k hk => ?_, (fun k hk => hk.elim), fun k hk => hk.elim⟩
  · by_cases e2 : k = w.heap.size
    · subst e2
      exact ⟨a.base, by rw [World.size_alloc]; omega⟩
    · simp [e2] at hk
  · have := (a.tagged k hk).2
    exact if_neg (by omega)
end
theorem fewer_from (l : List S133) (most : Int) (hl : l.length ≤ 9223372036854775807) (hin : ∀ x ∈ l, x.f1.length ≤ 1000000000000000 ∧ x.f2.length ≤ 1000000000000000) (d : Nat) : ∀ (i k : Nat), i + d = l.length → d < k →
    trunnionlaw22_few.l0 k l most l (l.length : Int) (i : Int) = some ((l.drop i).all fewOp && decide ((l.length : Int) ≤ most)) := by
  induction d with
  | zero =>
    intro i k hi hk
    obtain ⟨k, rfl⟩ : ∃ m, k = m + 1 := ⟨k - 1, by omega⟩
    simp only [trunnionlaw22_few.l0]
    rw [if_neg (by omega), List.drop_eq_nil_of_le (by omega)]
    simp
  | succ d ih =>
    intro i k hi hk
    obtain ⟨k, rfl⟩ : ∃ m, k = m + 1 := ⟨k - 1, by omega⟩
    have hlt : i < l.length := by omega
    have e1 : rd_T133 l (i : Int) = l[i] := by simp [rd_T133, List.getD_eq_getElem?_getD, List.getElem?_eq_getElem hlt]
    have hx := hin _ (List.getElem_mem hlt)
    simp only [trunnionlaw22_few.l0]
    rw [if_pos (by omega), if_pos (by omega), if_pos (by omega), e1, List.drop_eq_getElem_cons hlt, List.all_cons]
    have e2 : wrap64 ((l[i].f1.length : Int) + (l[i].f2.length : Int)) = (l[i].f1.length : Int) + (l[i].f2.length : Int) := by unfold wrap64; omega
    have e3 : wrap64 ((i : Int) + 1) = ((i + 1 : Nat) : Int) := by unfold wrap64; omega
    rw [e2, e3]
    by_cases c : l[i].f1.length + l[i].f2.length ≤ 50
    · rw [if_neg (by omega), ih (i + 1) k (by omega) (by omega)]
      simp [fewOp, c]
    · rw [if_pos (by omega)]
      simp [fewOp, c]
theorem fewer_is (l : List S133) (most : Int) (hl : l.length ≤ 9223372036854775807) (hin : ∀ x ∈ l, x.f1.length ≤ 1000000000000000 ∧ x.f2.length ≤ 1000000000000000) : ∃ k, trunnionlaw22_few.f k l most = some (fewM l most) :=
  ⟨l.length + 1, fewer_from l most hl hin l.length 0 (l.length + 1) (by omega) (by omega)⟩
theorem fewM_true {l : List S133} {most : Int} (h : fewM l most = true) : (l.length : Int) ≤ most ∧ ∀ i, i < l.length → (rd_T133 l (i : Int)).f1.length ≤ 50 ∧ (rd_T133 l (i : Int)).f2.length ≤ 50 := by
  simp only [fewM, Bool.and_eq_true, List.all_eq_true, decide_eq_true_eq] at h
  refine ⟨h.2, fun i hi => ?_⟩
  have e1 : rd_T133 l (i : Int) = l[i] := by simp [rd_T133, List.getD_eq_getElem?_getD, List.getElem?_eq_getElem hi]
  rw [e1]
  have := h.1 _ (List.getElem_mem hi)
  simp only [fewOp, decide_eq_true_eq] at this
  omega
set_option maxRecDepth 100000 in
set_option maxHeartbeats 8000000 in
theorem plays_walk (w : World) (A : Option Addr) (c : Nat) (l : List S133) (hl : l.length ≤ c) (hr : Kd.C k133 w A l.length l) (hmax : l.length ≤ 9223372036854775807) (hin : ∀ x ∈ l, x.f1.length ≤ 1000000000000000 ∧ x.f2.length ≤ 1000000000000000) (hu : ∀ x ∈ l, 0 ≤ x.f4 ∧ x.f4 < 4294967296) :
    Calls Try.prog 10 #[.slice A l.length c] w fun e w' => e = .returned (.bool true) ∧ Below w.heap.size w w' := by
  obtain ⟨k, hk⟩ := fewer_is l 80 hmax hin
  have FC := Aside0.mk (fun (W : World) (hW : Below w.heap.size w W) => trunnionlaw22_few.calls k A c l 80 (fewM l 80) W (Kd.C_below hr hW) hl hk)
  have HR := Aside0.mk hr
  have HU := Aside0.mk hu
  have hu133 := Try.underlying133
  have FT := Aside0.mk (fun h => fewM_true (l := l) (most := 80) h)
  obtain ⟨r, hrr⟩ : ∃ r, r = fewM l 80 := ⟨_, rfl⟩
  rw [← hrr] at FC FT
  clear hk hl hr hmax hin hu hrr
  go_enter Try.func10, Try.ntmps10
  go_wp2_with fail
  refine (awake_calls w).mono ?_
  rintro e w1 ⟨rfl, hb⟩
  have HB1 := Aside0.mk hb
  clear hb
  go_wp2_with fail
  refine (FC.out w1 HB1.out).mono ?_
  rintro e w2 ⟨rfl, hb⟩
  have HB2 := Aside0.mk (below_then HB1.out HB1.out.size hb)
  clear hb HB1
  cases r with
  | false =>
    go_wp2
    go_ret
    exact ⟨rfl, HB2.out⟩
  | true =>
    have FT2 := Aside0.mk (FT.out rfl)
    clear FT FC
    go_wp2_with fail
    refine (New_has w2).mono ?_
    rintro e w3 ⟨g1, rfl, hh, hb⟩
    have HP3 := Aside0.mk (pair_new (hh.lower HB2.out.size))
    have HB3 := Aside0.mk ((below_then HB2.out HB2.out.size hb).alloc ((below_then HB2.out HB2.out.size hb).size) (.cells #[.slice none 0 0] 131))
    clear hh hb HB2
    go_wp2_with fail
    obtain ⟨g2, hg2⟩ : ∃ g2, g2 = w3.heap.size := ⟨_, rfl⟩
    obtain ⟨w4, hw4⟩ : ∃ w4, w4 = w3.alloc (.cells #[.slice none 0 0] 131) := ⟨_, rfl⟩
    rw [← hg2, ← hw4] at HP3
    rw [← hw4] at HB3
    rw [← hg2, ← hw4]
    clear hg2 hw4
    go_loopg [17] l.length (fun d v17 w' => ∃ (i : Nat) (fs : List Fr), v17 = .int .i64 (i : Int) ∧ Aside0 (i + d = l.length) ∧ Aside0 (Pair w.heap.size w' g1 g2 fs fs (fun _ => False) (fun _ => False)) ∧ Aside0 (Small (50 * i) fs) ∧ Aside0 (Below w.heap.size w w'))
    case atStart => exact ⟨0, [], rfl, ⟨by omega⟩, HP3, ⟨small_nil _⟩, HB3⟩
    case round =>
      clear HP3 HB3
      obtain ⟨i, fs, rfl, HD, HP, HS, HB⟩ := hrel
      have hlen := FT2.out.1
      have hd := HD.out
      cases gk with
      | zero =>
        have e1 : decide (i < l.length) = false := decide_eq_false (by omega)
        clear hlen hd
        go_wp2
        go_ret
        exact ⟨rfl, HB.out⟩
      | succ d =>
        have hi : i < l.length := by omega
        have e1 : decide (i < l.length) = true := decide_eq_true hi
        obtain ⟨ad, A1, c1, A2, c2, eA, x0, x1, x2, x3, x4, m1, q1, m2, q2⟩ := at_T133 HR.out (i : Int) (by omega) (by omega)
        subst eA
        have nn := FT2.out.2 i hi
        have hx := HU.out (rd_T133 l (i : Int)) (by
          have e1 : rd_T133 l (i : Int) = l[i] := by simp [rd_T133, List.getD_eq_getElem?_getD, List.getElem?_eq_getElem hi]
          rw [e1]; exact List.getElem_mem hi)
        obtain ⟨X, hX⟩ : ∃ X, X = rd_T133 l (i : Int) := ⟨_, rfl⟩
        rw [← hX] at x0 x1 x2 x3 x4 m1 q1 m2 q2 nn hx
        clear hX
        simp only [Int.toNat_natCast] at x0 x1 x2 x3 x4
        replace x0 := (HB.out.cell (World.block_lt_of_cell? w _ x0)).trans x0
        replace x1 := (HB.out.cell (World.block_lt_of_cell? w _ x1)).trans x1
        replace x2 := (HB.out.cell (World.block_lt_of_cell? w _ x2)).trans x2
        replace x3 := (HB.out.cell (World.block_lt_of_cell? w _ x3)).trans x3
        replace x4 := (HB.out.cell (World.block_lt_of_cell? w _ x4)).trans x4
        have BX := Aside0.mk (heap_alloc_new wr (.cells #[.int .i64 X.f0, .slice A1 X.f1.length c1, .slice A2 X.f2.length c2, .int .u8 X.f3, .int .u32 X.f4] 133))
        have hbx := below_alloc (Below.refl wr.heap.size wr) (.cells #[.int .i64 X.f0, .slice A1 X.f1.length c1, .slice A2 X.f2.length c2, .int .u8 X.f3, .int .u32 X.f4] 133)
        have HPD := Aside0.mk ((HP.out.below (w' := (wr.alloc (.cells #[.int .i64 X.f0, .slice A1 X.f1.length c1, .slice A2 X.f2.length c2, .int .u8 X.f3, .int .u32 X.f4] 133)).drew) (below_drew hbx)).mono (Q1 := fun k => k = wr.heap.size) (Q2 := fun k => k = wr.heap.size) (fun k hk => .inr (by show _ ∧ _ < (wr.alloc _).heap.size; rw [World.size_alloc]; omega)) (fun k hk => .inr (by show _ ∧ _ < (wr.alloc _).heap.size; rw [World.size_alloc]; omega)))
        have HBD := Aside0.mk (show Below w.heap.size w (wr.alloc (.cells #[.int .i64 X.f0, .slice A1 X.f1.length c1, .slice A2 X.f2.length c2, .int .u8 X.f3, .int .u32 X.f4] 133)).drew from below_then HB.out HB.out.size (below_drew hbx))
        have hsm : Small 1000000 fs := HS.out.mono (by omega)
        have SC := Aside0.mk (step_calls HPD.out hsm X A1 A2 c1 c2 ((Came.of q1).below HBD.out) m1 nn.1 ((Came.of q2).below HBD.out) m2 nn.2 hx.1 hx.2)
        have SM := Aside0.mk (stepM_small X HS.out nn.1 nn.2)
        have SM2 := Aside0.mk (SM.out.mono (show 50 * i + 50 ≤ 1000000 by omega))
        obtain ⟨fs2, hfs⟩ : ∃ fs2, fs2 = stepM fs X := ⟨_, rfl⟩
        rw [← hfs] at SC SM SM2
        have hlI : (fs2.length : Int) ≤ 1000000 := by have := SM2.out.1; omega
        clear hbx m1 q1 m2 q2 nn hx hsm hfs hlen hd HS
        go_wp2_with fail
        clear x0 x1 x2 x3 x4
        have KC := Aside0.mk (show ∀ W : World, W.heap[wr.heap.size]? = some (.cells #[.int .i64 X.f0, .slice A1 X.f1.length c1, .slice A2 X.f2.length c2, .int .u8 X.f3, .int .u32 X.f4] 133 (0, 0)) → (W.cell? ⟨wr.heap.size, 0, none⟩ = some (.int .i64 X.f0) ∧ W.cell? ⟨wr.heap.size, 1, none⟩ = some (.slice A1 X.f1.length c1) ∧ W.cell? ⟨wr.heap.size, 2, none⟩ = some (.slice A2 X.f2.length c2) ∧ W.cell? ⟨wr.heap.size, 3, none⟩ = some (.int .u8 X.f3) ∧ W.cell? ⟨wr.heap.size, 4, none⟩ = some (.int .u32 X.f4)) from fun W hW => ⟨(blk_cell hW 0).trans rfl, (blk_cell hW 1).trans rfl, (blk_cell hW 2).trans rfl, (blk_cell hW 3).trans rfl, (blk_cell hW 4).trans rfl⟩)
        refine wp_region_held_drew (S := fun W => W.cell? ⟨wr.heap.size, 0, none⟩ = some (.int .i64 X.f0) ∧ W.cell? ⟨wr.heap.size, 1, none⟩ = some (.slice A1 X.f1.length c1) ∧ W.cell? ⟨wr.heap.size, 2, none⟩ = some (.slice A2 X.f2.length c2) ∧ W.cell? ⟨wr.heap.size, 3, none⟩ = some (.int .u8 X.f3) ∧ W.cell? ⟨wr.heap.size, 4, none⟩ = some (.int .u32 X.f4)) (by kernel_rfl) (KC.out _ BX.out) (fun hHeld => ?_)
        refine wpAnyH_take (i := 0) (oi := ?oi0) (v := ?v0) ?hi0 ?hs0 ?hf0 ?hr0 ?hq0 (Or.inl ⟨?hw0, ?hy0⟩) (by assumption) ?rest0
        case hi0 => simp only [List.getElem?_toArray, List.getElem?_cons_succ, List.getElem?_cons_zero]; rfl
        case hs0 => kernel_rfl
        case hf0 => kernel_rfl
        case hr0 => kernel_rfl
        case hq0 => exact fun _ _ _ h => h
        case hw0 => rfl
        case hy0 =>
          intro w hSw
          (try dsimp only at hSw)
          go_simp
          try with_reducible rfl
        (try simp only [Act.put, List.setIfInBounds_toArray, List.set_cons_zero, List.set_cons_succ])
        refine wpAnyH_take (i := 1) (oi := ?oi1) (v := ?v1) ?hi1 ?hs1 ?hf1 ?hr1 ?hq1 (Or.inl ⟨?hw1, ?hy1⟩) (by assumption) ?rest1
        case hi1 => simp only [List.getElem?_toArray, List.getElem?_cons_succ, List.getElem?_cons_zero]; rfl
        case hs1 => kernel_rfl
        case hf1 => kernel_rfl
        case hr1 => kernel_rfl
        case hq1 => exact fun _ _ _ h => h
        case hw1 => rfl
        case hy1 =>
          intro w hSw
          (try dsimp only at hSw)
          go_simp
          try with_reducible rfl
        (try simp only [Act.put, List.setIfInBounds_toArray, List.set_cons_zero, List.set_cons_succ])
        refine wpAnyH_take (i := 2) (oi := ?oi2) (v := ?v2) ?hi2 ?hs2 ?hf2 ?hr2 ?hq2 (Or.inl ⟨?hw2, ?hy2⟩) (by assumption) ?rest2
        case hi2 => simp only [List.getElem?_toArray, List.getElem?_cons_succ, List.getElem?_cons_zero]; rfl
        case hs2 => kernel_rfl
        case hf2 => kernel_rfl
        case hr2 => kernel_rfl
        case hq2 => exact fun _ _ _ h => h
        case hw2 => rfl
        case hy2 =>
          intro w hSw
          (try dsimp only at hSw)
          go_simp
          try with_reducible rfl
        (try simp only [Act.put, List.setIfInBounds_toArray, List.set_cons_zero, List.set_cons_succ])
        refine wpAnyH_ready (rs := [3]) (by kernel_rfl) (by simp) ?_
        refine AllReadyH.cons (o := ?o3) ?ho3 (fun K hK => ?_) AllReadyH.nil
        case ho3 => simp only [List.getElem?_toArray, List.getElem?_cons_succ, List.getElem?_cons_zero]; rfl
        go_simp
        refine SC.out.mono ?_
        rintro e5 w5 ⟨rfl, hp, hb, hk⟩
        have BX5 := Aside0.mk ((hk _ rfl).trans BX.out)
        have HP5 := Aside0.mk (hp.mono (Q1 := fun _ => False) (Q2 := fun _ => False) (fun k hk => hk.elim) (fun k hk => hk.elim))
        have HB5 := Aside0.mk (HBD.out.trans hb)
        obtain ⟨Ab, cb, hbx⟩ := p_box HP5.out
        have K5 := Aside0.mk (show ∀ W, Below w5.heap.size w5 W → (Below w5.heap.size w5 W ∧ W.cell? ⟨g2, 0, none⟩ = some (.slice Ab fs2.length cb)) from fun W hW => ⟨hW, (hW.cell (World.block_lt_of_cell? w5 _ hbx)).trans hbx⟩)
        clear hp hb hk hbx
        refine hK.out _ _ (KC.out _ BX5.out) (fun hHeld2 => ?_)
        clear hK K hHeld
        have hHeld := hHeld2
        clear hHeld2
        (try simp only [Act.put, List.setIfInBounds_toArray, List.set_cons_zero, List.set_cons_succ])
        refine wpAnyH_mono (S' := fun W => Below w5.heap.size w5 W ∧ W.cell? ⟨g2, 0, none⟩ = some (.slice Ab fs2.length cb)) (fun W hW => KC.out W ((hW.1.block _ (blk_lt BX5.out)).trans BX5.out)) _ _ _ _ ?_
        clear hHeld
        have hHeld := K5.out _ (Below.refl _ _)
        refine wpAnyH_take (i := 4) (oi := ?oi4) (v := ?v4) ?hi4 ?hs4 ?hf4 ?hr4 ?hq4 (Or.inl ⟨?hw4, ?hy4⟩) (by assumption) ?rest4
        case hi4 => simp only [List.getElem?_toArray, List.getElem?_cons_succ, List.getElem?_cons_zero]; rfl
        case hs4 => kernel_rfl
        case hf4 => kernel_rfl
        case hr4 => kernel_rfl
        case hq4 => exact fun _ _ _ h => h
        case hw4 => rfl
        case hy4 =>
          intro w hSw
          (try dsimp only at hSw)
          go_simp
          try with_reducible rfl
        (try simp only [Act.put, List.setIfInBounds_toArray, List.set_cons_zero, List.set_cons_succ])
        refine wpAnyH_take (i := 5) (oi := ?oi5) (v := ?v5) ?hi5 ?hs5 ?hf5 ?hr5 ?hq5 (Or.inl ⟨?hw5, ?hy5⟩) (by assumption) ?rest5
        case hi5 => simp only [List.getElem?_toArray, List.getElem?_cons_succ, List.getElem?_cons_zero]; rfl
        case hs5 => kernel_rfl
        case hf5 => kernel_rfl
        case hr5 => kernel_rfl
        case hq5 => exact fun _ _ _ h => h
        case hw5 => rfl
        case hy5 =>
          intro w hSw
          (try dsimp only at hSw)
          go_simp
          try with_reducible rfl
        (try simp only [Act.put, List.setIfInBounds_toArray, List.set_cons_zero, List.set_cons_succ])
        refine wpAnyH_take (i := 6) (oi := ?oi6) (v := ?v6) ?hi6 ?hs6 ?hf6 ?hr6 ?hq6 (Or.inl ⟨?hw6, ?hy6⟩) (by assumption) ?rest6
        case hi6 => simp only [List.getElem?_toArray, List.getElem?_cons_succ, List.getElem?_cons_zero]; rfl
        case hs6 => kernel_rfl
        case hf6 => kernel_rfl
        case hr6 => kernel_rfl
        case hq6 => exact fun _ _ _ h => h
        case hw6 => rfl
        case hy6 =>
          intro w hSw
          (try dsimp only at hSw)
          go_simp
          try with_reducible rfl
        (try simp only [Act.put, List.setIfInBounds_toArray, List.set_cons_zero, List.set_cons_succ])
        refine wpAnyH_take (i := 8) (oi := ?oi8) (v := ?v8) ?hi8 ?hs8 ?hf8 ?hr8 ?hq8 (Or.inl ⟨?hw8, ?hy8⟩) (by assumption) ?rest8
        case hi8 => simp only [List.getElem?_toArray, List.getElem?_cons_succ, List.getElem?_cons_zero]; rfl
        case hs8 => kernel_rfl
        case hf8 => kernel_rfl
        case hr8 => kernel_rfl
        case hq8 => exact fun _ _ _ h => h
        case hw8 => rfl
        case hy8 =>
          intro w hSw
          (try dsimp only at hSw)
          go_simp
          try with_reducible rfl
        (try simp only [Act.put, List.setIfInBounds_toArray, List.set_cons_zero, List.set_cons_succ])
        refine wpAnyH_take (i := 9) (oi := ?oi9) (v := ?v9) ?hi9 ?hs9 ?hf9 ?hr9 ?hq9 (Or.inl ⟨?hw9, ?hy9⟩) (by assumption) ?rest9
        case hi9 => simp only [List.getElem?_toArray, List.getElem?_cons_succ, List.getElem?_cons_zero]; rfl
        case hs9 => kernel_rfl
        case hf9 => kernel_rfl
        case hr9 => kernel_rfl
        case hq9 => exact fun _ _ _ h => h
        case hw9 => rfl
        case hy9 =>
          intro w hSw
          (try dsimp only at hSw)
          go_simp
          try with_reducible rfl
        (try simp only [Act.put, List.setIfInBounds_toArray, List.set_cons_zero, List.set_cons_succ])
        refine wpAnyH_take (i := 10) (oi := ?oi10) (v := ?v10) ?hi10 ?hs10 ?hf10 ?hr10 ?hq10 (Or.inl ⟨?hw10, ?hy10⟩) (by assumption) ?rest10
        case hi10 => simp only [List.getElem?_toArray, List.getElem?_cons_succ, List.getElem?_cons_zero]; rfl
        case hs10 => kernel_rfl
        case hf10 => kernel_rfl
        case hr10 => kernel_rfl
        case hq10 => exact fun _ _ _ h => h
        case hw10 => rfl
        case hy10 =>
          intro w hSw
          (try dsimp only at hSw)
          go_simp
          try with_reducible rfl
        (try simp only [Act.put, List.setIfInBounds_toArray, List.set_cons_zero, List.set_cons_succ])
        refine wpAnyH_take (i := 11) (oi := ?oi11) (v := ?v11) ?hi11 ?hs11 ?hf11 ?hr11 ?hq11 (Or.inl ⟨?hw11, ?hy11⟩) (by assumption) ?rest11
        case hi11 => simp only [List.getElem?_toArray, List.getElem?_cons_succ, List.getElem?_cons_zero]; rfl
        case hs11 => kernel_rfl
        case hf11 => kernel_rfl
        case hr11 => kernel_rfl
        case hq11 => exact fun _ _ _ h => h
        case hw11 => rfl
        case hy11 =>
          intro w hSw
          (try dsimp only at hSw)
          go_simp
          try with_reducible rfl
        (try simp only [Act.put, List.setIfInBounds_toArray, List.set_cons_zero, List.set_cons_succ])
        refine wpAnyH_take (i := 12) (oi := ?oi12) (v := ?v12) ?hi12 ?hs12 ?hf12 ?hr12 ?hq12 (Or.inl ⟨?hw12, ?hy12⟩) (by assumption) ?rest12
        case hi12 => simp only [List.getElem?_toArray, List.getElem?_cons_succ, List.getElem?_cons_zero]; rfl
        case hs12 => kernel_rfl
        case hf12 => kernel_rfl
        case hr12 => kernel_rfl
        case hq12 => exact fun _ _ _ h => h
        case hw12 => rfl
        case hy12 =>
          intro w hSw
          (try dsimp only at hSw)
          go_simp
          try with_reducible rfl
        (try simp only [Act.put, List.setIfInBounds_toArray, List.set_cons_zero, List.set_cons_succ])
        refine wpAnyH_ready (rs := [7]) (by kernel_rfl) (by simp) ?_
        refine AllReadyH.cons (o := ?o7) ?ho7 (fun K hK => ?_) AllReadyH.nil
        case ho7 => simp only [List.getElem?_toArray, List.getElem?_cons_succ, List.getElem?_cons_zero]; rfl
        go_simp
        refine (p_frames HP5.out).mono ?_
        rintro e6 w6 ⟨rfl, rfl⟩
        refine hK.out _ _ (K5.out _ (Below.refl _ _)) (fun hHeld2 => ?_)
        clear hK K hHeld
        have hHeld := hHeld2
        clear hHeld2
        (try simp only [Act.put, List.setIfInBounds_toArray, List.set_cons_zero, List.set_cons_succ])
        refine wpAnyH_take (i := 13) (oi := ?oi13) (v := ?v13) ?hi13 ?hs13 ?hf13 ?hr13 ?hq13 (Or.inl ⟨?hw13, ?hy13⟩) (by assumption) ?rest13
        case hi13 => simp only [List.getElem?_toArray, List.getElem?_cons_succ, List.getElem?_cons_zero]; rfl
        case hs13 => kernel_rfl
        case hf13 => kernel_rfl
        case hr13 => kernel_rfl
        case hq13 => exact fun _ _ _ h => h
        case hw13 => rfl
        case hy13 =>
          intro w hSw
          (try dsimp only at hSw)
          go_simp
          try with_reducible rfl
        (try simp only [Act.put, List.setIfInBounds_toArray, List.set_cons_zero, List.set_cons_succ])
        refine wpAnyH_take (i := 14) (oi := ?oi14) (v := ?v14) ?hi14 ?hs14 ?hf14 ?hr14 ?hq14 (Or.inl ⟨?hw14, ?hy14⟩) (by assumption) ?rest14
        case hi14 => simp only [List.getElem?_toArray, List.getElem?_cons_succ, List.getElem?_cons_zero]; rfl
        case hs14 => kernel_rfl
        case hf14 => kernel_rfl
        case hr14 => kernel_rfl
        case hq14 => exact fun _ _ _ h => h
        case hw14 => rfl
        case hy14 =>
          intro w hSw
          (try dsimp only at hSw)
          go_simp
          try with_reducible rfl
        (try simp only [Act.put, List.setIfInBounds_toArray, List.set_cons_zero, List.set_cons_succ])
        refine wpAnyH_take (i := 15) (oi := ?oi15) (v := ?v15) ?hi15 ?hs15 ?hf15 ?hr15 ?hq15 (Or.inl ⟨?hw15, ?hy15⟩) (by assumption) ?rest15
        case hi15 => simp only [List.getElem?_toArray, List.getElem?_cons_succ, List.getElem?_cons_zero]; rfl
        case hs15 => kernel_rfl
        case hf15 => kernel_rfl
        case hr15 => kernel_rfl
        case hq15 => exact fun _ _ _ h => h
        case hw15 => rfl
        case hy15 =>
          intro w hSw
          (try dsimp only at hSw)
          go_simp
          try with_reducible rfl
        (try simp only [Act.put, List.setIfInBounds_toArray, List.set_cons_zero, List.set_cons_succ])
        refine wpAnyH_take (i := 16) (oi := ?oi16) (v := ?v16) ?hi16 ?hs16 ?hf16 ?hr16 ?hq16 (Or.inl ⟨?hw16, ?hy16⟩) (by assumption) ?rest16
        case hi16 => simp only [List.getElem?_toArray, List.getElem?_cons_succ, List.getElem?_cons_zero]; rfl
        case hs16 => kernel_rfl
        case hf16 => kernel_rfl
        case hr16 => kernel_rfl
        case hq16 => exact fun _ _ _ h => h
        case hw16 => rfl
        case hy16 =>
          intro w hSw
          (try dsimp only at hSw)
          go_simp
          try with_reducible rfl
        (try simp only [Act.put, List.setIfInBounds_toArray, List.set_cons_zero, List.set_cons_succ])
        refine wpAnyH_take (i := 19) (oi := ?oi19) (v := ?v19) ?hi19 ?hs19 ?hf19 ?hr19 ?hq19 (Or.inl ⟨?hw19, ?hy19⟩) (by assumption) ?rest19
        case hi19 => simp only [List.getElem?_toArray, List.getElem?_cons_succ, List.getElem?_cons_zero]; rfl
        case hs19 => kernel_rfl
        case hf19 => kernel_rfl
        case hr19 => kernel_rfl
        case hq19 => exact fun _ _ _ h => h
        case hw19 => rfl
        case hy19 =>
          intro w hSw
          (try dsimp only at hSw)
          go_simp
          try with_reducible rfl
        (try simp only [Act.put, List.setIfInBounds_toArray, List.set_cons_zero, List.set_cons_succ])
        refine wpAnyH_ready (rs := [17]) (by kernel_rfl) (by simp) ?_
        refine AllReadyH.cons (o := ?o17) ?ho17 (fun K hK => ?_) AllReadyH.nil
        case ho17 => simp only [List.getElem?_toArray, List.getElem?_cons_succ, List.getElem?_cons_zero]; rfl
        go_simp
        refine (p_lying HP5.out SM2.out).mono ?_
        rintro e6 w6 ⟨A3, c3, rfl, hC3, hb⟩
        have HB6 := Aside0.mk hb
        have HP6 := Aside0.mk ((HP5.out.below hb).mono (Q1 := fun _ => False) (Q2 := fun _ => False) (fun k hk => hk.elim) (fun k hk => hk.elim))
        have K6 := Aside0.mk (show ∀ W, Below w6.heap.size w6 W → (Below w6.heap.size w6 W ∧ (convert 32 9 (.slice A3 (lyingM fs2).length c3)).run Try.prog W = .ok (.string (strOfNums (lyingM fs2))) W) from fun W hW => ⟨hW, str_of (Kd.C_below hC3 hW) (Below.refl _ _)⟩)
        clear hC3 hb
        refine hK.out _ _ (K5.out _ HB6.out) (fun hHeld2 => ?_)
        clear hK K hHeld
        have hHeld := hHeld2
        clear hHeld2
        (try simp only [Act.put, List.setIfInBounds_toArray, List.set_cons_zero, List.set_cons_succ])
        refine wpAnyH_mono (S' := fun W => Below w6.heap.size w6 W ∧ (convert 32 9 (.slice A3 (lyingM fs2).length c3)).run Try.prog W = .ok (.string (strOfNums (lyingM fs2))) W) (fun W hW => K5.out W (below_then HB6.out HB6.out.size hW.1)) _ _ _ _ ?_
        clear hHeld
        have hHeld := K6.out _ (Below.refl _ _)
        refine wpAnyH_take (i := 18) (oi := ?oi18) (v := ?v18) ?hi18 ?hs18 ?hf18 ?hr18 ?hq18 (Or.inl ⟨?hw18, ?hy18⟩) (by assumption) ?rest18
        case hi18 => simp only [List.getElem?_toArray, List.getElem?_cons_succ, List.getElem?_cons_zero]; rfl
        case hs18 => kernel_rfl
        case hf18 => kernel_rfl
        case hr18 => kernel_rfl
        case hq18 => exact fun _ _ _ h => h
        case hw18 => rfl
        case hy18 =>
          intro w hSw
          (try dsimp only at hSw)
          go_simp
          try with_reducible rfl
        (try simp only [Act.put, List.setIfInBounds_toArray, List.set_cons_zero, List.set_cons_succ])
        refine wpAnyH_ready (rs := [20]) (by kernel_rfl) (by simp) ?_
        refine AllReadyH.cons (o := ?o20) ?ho20 (fun K hK => ?_) AllReadyH.nil
        case ho20 => simp only [List.getElem?_toArray, List.getElem?_cons_succ, List.getElem?_cons_zero]; rfl
        go_simp
        refine (p_rlying HP6.out SM2.out).mono ?_
        rintro e7 w7 ⟨A4, c4, rfl, hC4, hb⟩
        have HB7' := Aside0.mk hb
        have HP7 := Aside0.mk ((HP6.out.below hb).mono (Q1 := fun _ => False) (Q2 := fun _ => False) (fun k hk => hk.elim) (fun k hk => hk.elim))
        have HB7 := Aside0.mk (HB5.out.trans ((below_then HB6.out HB6.out.size hb).mono HP5.out.base_le))
        have cl : (convert 32 9 (.slice A4 (lyingM fs2).length c4)).run Try.prog w7 = .ok (.string (strOfNums (lyingM fs2))) w7 := str_of hC4 (Below.refl _ _)
        clear hC4 hb
        refine hK.out _ _ (K6.out _ HB7'.out) (fun hHeld2 => ?_)
        clear hK K hHeld
        have hHeld := hHeld2
        clear hHeld2
        (try simp only [Act.put, List.setIfInBounds_toArray, List.set_cons_zero, List.set_cons_succ])
        refine wpAnyH_ready (rs := [21]) (by kernel_rfl) (by simp) ?_
        refine AllReadyH.cons (o := ?o21) ?ho21 (fun K hK => ?_) AllReadyH.nil
        case ho21 => simp only [List.getElem?_toArray, List.getElem?_cons_succ, List.getElem?_cons_zero]; rfl
        go_simp
        refine hK.out _ _ (K6.out _ HB7'.out) (fun hHeld2 => ?_)
        clear hK K hHeld
        have hHeld := hHeld2
        clear hHeld2
        (try simp only [Act.put, List.setIfInBounds_toArray, List.set_cons_zero, List.set_cons_succ])
        refine wpAnyH_take (i := 22) (oi := ?oi22) (v := ?v22) ?hi22 ?hs22 ?hf22 ?hr22 ?hq22 (Or.inl ⟨?hw22, ?hy22⟩) (by assumption) ?rest22
        case hi22 => simp only [List.getElem?_toArray, List.getElem?_cons_succ, List.getElem?_cons_zero]; rfl
        case hs22 => kernel_rfl
        case hf22 => kernel_rfl
        case hr22 => kernel_rfl
        case hq22 => exact fun _ _ _ h => h
        case hw22 => rfl
        case hy22 =>
          intro w hSw
          (try dsimp only at hSw)
          go_simp
          try with_reducible rfl
        (try simp only [Act.put, List.setIfInBounds_toArray, List.set_cons_zero, List.set_cons_succ])
        refine wpAnyH_take (i := 23) (oi := ?oi23) (v := ?v23) ?hi23 ?hs23 ?hf23 ?hr23 ?hq23 (Or.inl ⟨?hw23, ?hy23⟩) (by assumption) ?rest23
        case hi23 => simp only [List.getElem?_toArray, List.getElem?_cons_succ, List.getElem?_cons_zero]; rfl
        case hs23 => kernel_rfl
        case hf23 => kernel_rfl
        case hr23 => kernel_rfl
        case hq23 => exact fun _ _ _ h => h
        case hw23 => rfl
        case hy23 =>
          intro w hSw
          (try dsimp only at hSw)
          go_simp
          try with_reducible rfl
        (try simp only [Act.put, List.setIfInBounds_toArray, List.set_cons_zero, List.set_cons_succ])
        refine wpAnyH_done (by kernel_rfl) ?_ _
        go_wp2
        go_roundg d
        case measure => omega
        case rel => exact ⟨i + 1, fs2, by have := FT2.out.1; rw [show wrap64 ((i : Int) + 1) = ((i + 1 : Nat) : Int) by unfold wrap64; omega], ⟨by have := HD.out; omega⟩, HP7, ⟨SM.out.mono (by omega)⟩, HB7⟩
end Go.Proofs.Ytkpjdkmggbelfaa.Operand
