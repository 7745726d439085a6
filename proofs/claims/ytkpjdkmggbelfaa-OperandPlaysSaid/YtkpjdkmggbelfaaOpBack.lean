/- The walk of the law OperandBack: it returns true. -/
import Derived.Test.YtkpjdkmggbelfaaOpHas
import Derived.Outline
import Derived.Deep.RegionLaw
namespace Go.Proofs.Ytkpjdkmggbelfaa.Operand
open Go.RowKit Go.Proofs.YtkpjdkmggbelfaaW.PrintWords Go.Proofs.YtkpjdkmggbelfaaW.PrintLast Go.Proofs.YtkpjdkmggbelfaaW.PrintMore Go.Proofs.Ytkpjdkmggbelfaa.Mem
set_option linter.unusedVariables false
set_option linter.unusedSimpArgs false
theorem str_of {w w1 : World} {A : Option Addr} {c : Nat} {l : List Int} (h : ku.C w A l.length l) (hb : Below w.heap.size w w1) : (convert 32 9 (.slice A l.length c)).run Try.prog w1 = .ok (.string (strOfNums l)) w1 :=
  Kd.C_string Try.underlying32 Try.underlying5 Try.underlying9 (Kd.C_below h hb)
theorem take_all (gs : List Fr) (f : Fr) (r : List Int) : takeM (gs ++ [{ f with types := r.reverse }]) r = (0, gs ++ [{ f with types := [] }]) := by
  induction r with
  | nil => rfl
  | cons x r ih =>
    rw [takeM_cons, popM_hit gs { f with types := (x :: r).reverse } r.reverse x x (by simp) (by simp)]
    exact ih
theorem take_dead (gs : List Fr) (f : Fr) (h1 : f.types = []) (h2 : f.dead = true) (r : List Int) : takeM (gs ++ [f]) r = (0, gs ++ [f]) := by
  induction r with
  | nil => rfl
  | cons x r ih =>
    rw [takeM_cons, popM_empty _ _ _ h1, h2]
    exact ih
def B1 (types : List Int) : Fr := ⟨[], [], types, false⟩
theorem back_close (types inner : List Int) : closeM ([B1 types] ++ [⟨[], inner, inner, false⟩]) = (inner, 0, [B1 types]) := by
  have h := take_all [B1 types] ⟨[], inner, inner, false⟩ inner.reverse
  rw [List.reverse_reverse] at h
  rw [closeM_last, h, lyingM_last]
  simp
theorem back_kill (types want : List Int) : closeM ([B1 types] ++ [⟨[], want, [], true⟩]) = (want, 0, [B1 types]) := by
  rw [closeM_last, take_dead _ _ rfl rfl, lyingM_last]
  simp
theorem back_pop (types : List Int) (i : Nat) (h : i < types.length) : popM [B1 (types.take (i + 1))] (rd types (i : Int)) = (rd types (i : Int), 0, [B1 (types.take i)]) := by
  have := popM_hit [] (B1 (types.take (i + 1))) (types.take i) (rd types (i : Int)) (rd types (i : Int)) (by
    show types.take (i + 1) = _
    rw [List.take_succ_eq_append_getElem h]
    simp [rd, h]) (by simp)
  exact this
set_option maxRecDepth 100000 in
set_option maxHeartbeats 8000000 in
theorem back_walk (w : World) (A0 : Option Addr) (c0 : Nat) (types : List Int) (h0 : ku.C w A0 types.length types) (A1 : Option Addr) (c1 : Nat) (inner : List Int) (h1 : ku.C w A1 inner.length inner) (A2 : Option Addr) (c2 : Nat) (want : List Int) (h2 : ku.C w A2 want.length want) :
    Calls Try.prog 9 #[.slice A0 types.length c0, .slice A1 inner.length c1, .slice A2 want.length c2] w fun e w' => e = .returned (.bool true) ∧ Below w.heap.size w w' := by
  have H0 := Aside0.mk (Came.of h0)
  have H1 := Aside0.mk (Came.of h1)
  have H2 := Aside0.mk (Came.of h2)
  clear h0 h1 h2
  by_cases hl : types.length ≤ 50 ∧ inner.length ≤ 50 ∧ want.length ≤ 50
  · obtain ⟨l0, l1, l2⟩ := hl
    have L0 := Aside0.mk l0
    have L1 := Aside0.mk l1
    have L2 := Aside0.mk l2
    have d0 : decide (50 < (types.length : Int)) = false := decide_eq_false (by omega)
    have d1 : decide (50 < (inner.length : Int)) = false := decide_eq_false (by omega)
    have d2 : decide (50 < (want.length : Int)) = false := decide_eq_false (by omega)
    have sm1 : Small 1000000 [B1 types] := ⟨by simp, by intro f hf; simp at hf; subst hf; exact ⟨by show types.length ≤ _; omega, Nat.zero_le _, Nat.zero_le _⟩⟩
    have SM1 := Aside0.mk sm1
    have SM2 := Aside0.mk (show Small 1000000 [B1 [], ] from ⟨by simp, by intro f hf; simp at hf; subst hf; exact ⟨Nat.zero_le _, Nat.zero_le _, Nat.zero_le _⟩⟩)
    have SM3 := Aside0.mk (show Small 1000000 ([B1 types] ++ [⟨[], inner, [], false⟩]) from ⟨by simp, by intro f hf; simp at hf; rcases hf with rfl | rfl; exact ⟨by show types.length ≤ _; omega, Nat.zero_le _, Nat.zero_le _⟩; exact ⟨Nat.zero_le _, Nat.zero_le _, by show inner.length ≤ _; omega⟩⟩)
    have SM4 := Aside0.mk (show Small 1000000 ([B1 types] ++ [⟨[], inner, inner, false⟩]) from ⟨by simp, by intro f hf; simp at hf; rcases hf with rfl | rfl; exact ⟨by show types.length ≤ _; omega, Nat.zero_le _, Nat.zero_le _⟩; exact ⟨by show inner.length ≤ _; omega, Nat.zero_le _, by show inner.length ≤ _; omega⟩⟩)
    have SM5 := Aside0.mk (show Small 1000000 ([B1 types] ++ [⟨[], want, [], false⟩]) from ⟨by simp, by intro f hf; simp at hf; rcases hf with rfl | rfl; exact ⟨by show types.length ≤ _; omega, Nat.zero_le _, Nat.zero_le _⟩; exact ⟨Nat.zero_le _, Nat.zero_le _, by show want.length ≤ _; omega⟩⟩)
    have SM6 := Aside0.mk (show Small 1000000 ([B1 types] ++ [⟨[], want, [], true⟩]) from ⟨by simp, by intro f hf; simp at hf; rcases hf with rfl | rfl; exact ⟨by show types.length ≤ _; omega, Nat.zero_le _, Nat.zero_le _⟩; exact ⟨Nat.zero_le _, Nat.zero_le _, by show want.length ≤ _; omega⟩⟩)
    clear sm1 l0 l1 l2
    go_enter Try.func9, Try.ntmps9
    go_wp2_with fail
    refine (awake_calls w).mono ?_
    rintro e w1 ⟨rfl, hb⟩
    have HB := Aside0.mk hb
    clear hb
    go_wp2_with fail
    refine (New_has w1).mono ?_
    rintro e w2 ⟨g, rfl, hh, hb⟩
    have S := Aside0.mk (hh.lower HB.out.size)
    have HB2 := Aside0.mk (below_then HB.out HB.out.size hb)
    clear hh hb HB
    go_wp2_with fail
    refine (Open_has S.out (small_nil _) none 0 [] (Came.nil _ _) (Nat.zero_le _) none 0 [] (Came.nil _ _) (Nat.zero_le _)).mono ?_
    rintro e w3 ⟨rfl, hh, hb⟩
    have S3 := Aside0.mk (show Has w.heap.size w3 g [B1 []] from hh)
    have HB3 := Aside0.mk (HB2.out.trans hb)
    clear hh hb HB2 S
    go_wp2_with fail
    refine (Push_has S3.out SM2.out A0 c0 types (H0.out.below HB3.out).c (by have := L0.out; omega)).mono ?_
    rintro e w4 ⟨rfl, hh, hb⟩
    have S4 := Aside0.mk (show Has w.heap.size w4 g [B1 types] from hh)
    have HB4 := Aside0.mk (HB3.out.trans hb)
    clear hh hb HB3 S3
    go_wp2_with fail
    refine (Open_has S4.out SM1.out none 0 [] (Came.nil _ _) (Nat.zero_le _) A1 c1 inner (H1.out.below HB4.out) (by have := L1.out; omega)).mono ?_
    rintro e w5 ⟨rfl, hh, hb⟩
    have S5 := Aside0.mk (show Has w.heap.size w5 g ([B1 types] ++ [⟨[], inner, [], false⟩]) from hh)
    have HB5 := Aside0.mk (HB4.out.trans hb)
    clear hh hb HB4 S4
    go_wp2_with fail
    refine (Push_has S5.out SM3.out A1 c1 inner (H1.out.below HB5.out).c (by have := L1.out; omega)).mono ?_
    rintro e w6 ⟨rfl, hh, hb⟩
    have S6 := Aside0.mk (show Has w.heap.size w6 g ([B1 types] ++ [⟨[], inner, inner, false⟩]) from hh)
    have HB6 := Aside0.mk (HB5.out.trans hb)
    clear hh hb HB5 S5
    have CL := Close_has S6.out SM4.out
    rw [back_close] at CL
    have CC := Aside0.mk CL
    clear CL
    go_wp2_with fail
    refine CC.out.mono ?_
    rintro e w7 ⟨A3, c3, rfl, hC3, hh, hb⟩
    have S7 := Aside0.mk hh
    have HB7 := Aside0.mk (HB6.out.trans hb)
    have C3 := Aside0.mk hC3
    clear hh hb HB6 S6 CC hC3
    go_wp2
    have kp : ∀ W, Below w7.heap.size w7 W → (Below w7.heap.size w7 W ∧ (convert 32 9 (.slice A3 inner.length c3)).run Try.prog W = .ok (.string (strOfNums inner)) W ∧ (convert 32 9 (.slice A1 inner.length c1)).run Try.prog W = .ok (.string (strOfNums inner)) W ∧ (convert 32 9 (.slice A0 types.length c0)).run Try.prog W = .ok (.string (strOfNums types)) W) :=
      fun W hW => ⟨hW, str_of C3.out hW, str_of (H1.out.below HB7.out).c hW, str_of (H0.out.below HB7.out).c hW⟩
    have KP := Aside0.mk kp
    clear kp
    have LY := Aside0.mk (show Calls Try.prog 40 #[.pointer (some ⟨g, 0, none⟩)] w7.drew (LyingPost w7.drew types) from Lying_has (S7.out.below (below_drew (Below.refl _ _))) SM1.out)
    refine wp_region_held_drew (S := fun W => Below w7.heap.size w7 W ∧ (convert 32 9 (.slice A3 inner.length c3)).run Try.prog W = .ok (.string (strOfNums inner)) W ∧ (convert 32 9 (.slice A1 inner.length c1)).run Try.prog W = .ok (.string (strOfNums inner)) W ∧ (convert 32 9 (.slice A0 types.length c0)).run Try.prog W = .ok (.string (strOfNums types)) W) (by kernel_rfl) (KP.out _ (below_drew (Below.refl _ _))) (fun hHeld => ?_)
    refine wpAnyH_take (i := 0) (oi := ?oi0) (v := ?v0) ?hi0 ?hs0 ?hf0 ?hr0 ?hq0 (Or.inl ⟨?hw0, ?hy0⟩) (by assumption) ?rest0
    case hi0 => simp only [List.getElem?_toArray, List.getElem?_cons_succ, List.getElem?_cons_zero]; rfl
    case hs0 => kernel_rfl
    case hf0 => kernel_rfl
    case hr0 => kernel_rfl
    case hq0 => exact fun _ _ _ h => h
    case hw0 => rfl
    case hy0 =>
      intro w hSw
      (try dsimp only at hSw)
      go_simp
      try with_reducible rfl
    (try simp only [Act.put, List.setIfInBounds_toArray, List.set_cons_zero, List.set_cons_succ])
    refine wpAnyH_take (i := 1) (oi := ?oi1) (v := ?v1) ?hi1 ?hs1 ?hf1 ?hr1 ?hq1 (Or.inl ⟨?hw1, ?hy1⟩) (by assumption) ?rest1
    case hi1 => simp only [List.getElem?_toArray, List.getElem?_cons_succ, List.getElem?_cons_zero]; rfl
    case hs1 => kernel_rfl
    case hf1 => kernel_rfl
    case hr1 => kernel_rfl
    case hq1 => exact fun _ _ _ h => h
    case hw1 => rfl
    case hy1 =>
      intro w hSw
      (try dsimp only at hSw)
      go_simp
      try with_reducible rfl
    (try simp only [Act.put, List.setIfInBounds_toArray, List.set_cons_zero, List.set_cons_succ])
    refine wpAnyH_take (i := 2) (oi := ?oi2) (v := ?v2) ?hi2 ?hs2 ?hf2 ?hr2 ?hq2 (Or.inl ⟨?hw2, ?hy2⟩) (by assumption) ?rest2
    case hi2 => simp only [List.getElem?_toArray, List.getElem?_cons_succ, List.getElem?_cons_zero]; rfl
    case hs2 => kernel_rfl
    case hf2 => kernel_rfl
    case hr2 => kernel_rfl
    case hq2 => exact fun _ _ _ h => h
    case hw2 => rfl
    case hy2 =>
      intro w hSw
      (try dsimp only at hSw)
      go_simp
      try with_reducible rfl
    (try simp only [Act.put, List.setIfInBounds_toArray, List.set_cons_zero, List.set_cons_succ])
    refine wpAnyH_take (i := 3) (oi := ?oi3) (v := ?v3) ?hi3 ?hs3 ?hf3 ?hr3 ?hq3 (Or.inl ⟨?hw3, ?hy3⟩) (by assumption) ?rest3
    case hi3 => simp only [List.getElem?_toArray, List.getElem?_cons_succ, List.getElem?_cons_zero]; rfl
    case hs3 => kernel_rfl
    case hf3 => kernel_rfl
    case hr3 => kernel_rfl
    case hq3 => exact fun _ _ _ h => h
    case hw3 => rfl
    case hy3 =>
      intro w hSw
      (try dsimp only at hSw)
      go_simp
      try with_reducible rfl
    (try simp only [Act.put, List.setIfInBounds_toArray, List.set_cons_zero, List.set_cons_succ])
    refine wpAnyH_take (i := 4) (oi := ?oi4) (v := ?v4) ?hi4 ?hs4 ?hf4 ?hr4 ?hq4 (Or.inl ⟨?hw4, ?hy4⟩) (by assumption) ?rest4
    case hi4 => simp only [List.getElem?_toArray, List.getElem?_cons_succ, List.getElem?_cons_zero]; rfl
    case hs4 => kernel_rfl
    case hf4 => kernel_rfl
    case hr4 => kernel_rfl
    case hq4 => exact fun _ _ _ h => h
    case hw4 => rfl
    case hy4 =>
      intro w hSw
      (try dsimp only at hSw)
      go_simp
      try with_reducible rfl
    (try simp only [Act.put, List.setIfInBounds_toArray, List.set_cons_zero, List.set_cons_succ])
    refine wpAnyH_take (i := 5) (oi := ?oi5) (v := ?v5) ?hi5 ?hs5 ?hf5 ?hr5 ?hq5 (Or.inl ⟨?hw5, ?hy5⟩) (by assumption) ?rest5
    case hi5 => simp only [List.getElem?_toArray, List.getElem?_cons_succ, List.getElem?_cons_zero]; rfl
    case hs5 => kernel_rfl
    case hf5 => kernel_rfl
    case hr5 => kernel_rfl
    case hq5 => exact fun _ _ _ h => h
    case hw5 => rfl
    case hy5 =>
      intro w hSw
      (try dsimp only at hSw)
      go_simp
      try with_reducible rfl
    (try simp only [Act.put, List.setIfInBounds_toArray, List.set_cons_zero, List.set_cons_succ])
    refine wpAnyH_take (i := 6) (oi := ?oi6) (v := ?v6) ?hi6 ?hs6 ?hf6 ?hr6 ?hq6 (Or.inl ⟨?hw6, ?hy6⟩) (by assumption) ?rest6
    case hi6 => simp only [List.getElem?_toArray, List.getElem?_cons_succ, List.getElem?_cons_zero]; rfl
    case hs6 => kernel_rfl
    case hf6 => kernel_rfl
    case hr6 => kernel_rfl
    case hq6 => exact fun _ _ _ h => h
    case hw6 => rfl
    case hy6 =>
      intro w hSw
      (try dsimp only at hSw)
      go_simp
      try with_reducible rfl
    (try simp only [Act.put, List.setIfInBounds_toArray, List.set_cons_zero, List.set_cons_succ])
    refine wpAnyH_take (i := 7) (oi := ?oi7) (v := ?v7) ?hi7 ?hs7 ?hf7 ?hr7 ?hq7 (Or.inl ⟨?hw7, ?hy7⟩) (by assumption) ?rest7
    case hi7 => simp only [List.getElem?_toArray, List.getElem?_cons_succ, List.getElem?_cons_zero]; rfl
    case hs7 => kernel_rfl
    case hf7 => kernel_rfl
    case hr7 => kernel_rfl
    case hq7 => exact fun _ _ _ h => h
    case hw7 => rfl
    case hy7 =>
      intro w hSw
      (try dsimp only at hSw)
      go_simp
      try with_reducible rfl
    (try simp only [Act.put, List.setIfInBounds_toArray, List.set_cons_zero, List.set_cons_succ])
    refine wpAnyH_take (i := 8) (oi := ?oi8) (v := ?v8) ?hi8 ?hs8 ?hf8 ?hr8 ?hq8 (Or.inl ⟨?hw8, ?hy8⟩) (by assumption) ?rest8
    case hi8 => simp only [List.getElem?_toArray, List.getElem?_cons_succ, List.getElem?_cons_zero]; rfl
    case hs8 => kernel_rfl
    case hf8 => kernel_rfl
    case hr8 => kernel_rfl
    case hq8 => exact fun _ _ _ h => h
    case hw8 => rfl
    case hy8 =>
      intro w hSw
      (try dsimp only at hSw)
      go_simp
      try with_reducible rfl
    (try simp only [Act.put, List.setIfInBounds_toArray, List.set_cons_zero, List.set_cons_succ])
    refine wpAnyH_take (i := 9) (oi := ?oi9) (v := ?v9) ?hi9 ?hs9 ?hf9 ?hr9 ?hq9 (Or.inl ⟨?hw9, ?hy9⟩) (by assumption) ?rest9
    case hi9 => simp only [List.getElem?_toArray, List.getElem?_cons_succ, List.getElem?_cons_zero]; rfl
    case hs9 => kernel_rfl
    case hf9 => kernel_rfl
    case hr9 => kernel_rfl
    case hq9 => exact fun _ _ _ h => h
    case hw9 => rfl
    case hy9 =>
      intro w hSw
      (try dsimp only at hSw)
      go_simp
      try with_reducible rfl
    (try simp only [Act.put, List.setIfInBounds_toArray, List.set_cons_zero, List.set_cons_succ])
    refine wpAnyH_take (i := 10) (oi := ?oi10) (v := ?v10) ?hi10 ?hs10 ?hf10 ?hr10 ?hq10 (Or.inl ⟨?hw10, ?hy10⟩) (by assumption) ?rest10
    case hi10 => simp only [List.getElem?_toArray, List.getElem?_cons_succ, List.getElem?_cons_zero]; rfl
    case hs10 => kernel_rfl
    case hf10 => kernel_rfl
    case hr10 => kernel_rfl
    case hq10 => exact fun _ _ _ h => h
    case hw10 => rfl
    case hy10 =>
      intro w hSw
      (try dsimp only at hSw)
      go_simp
      try with_reducible rfl
    (try simp only [Act.put, List.setIfInBounds_toArray, List.set_cons_zero, List.set_cons_succ])
    refine wpAnyH_take (i := 13) (oi := ?oi13) (v := ?v13) ?hi13 ?hs13 ?hf13 ?hr13 ?hq13 (Or.inl ⟨?hw13, ?hy13⟩) (by assumption) ?rest13
    case hi13 => simp only [List.getElem?_toArray, List.getElem?_cons_succ, List.getElem?_cons_zero]; rfl
    case hs13 => kernel_rfl
    case hf13 => kernel_rfl
    case hr13 => kernel_rfl
    case hq13 => exact fun _ _ _ h => h
    case hw13 => rfl
    case hy13 =>
      intro w hSw
      (try dsimp only at hSw)
      go_simp
      try with_reducible rfl
    (try simp only [Act.put, List.setIfInBounds_toArray, List.set_cons_zero, List.set_cons_succ])
    refine wpAnyH_take (i := 14) (oi := ?oi14) (v := ?v14) ?hi14 ?hs14 ?hf14 ?hr14 ?hq14 (Or.inl ⟨?hw14, ?hy14⟩) (by assumption) ?rest14
    case hi14 => simp only [List.getElem?_toArray, List.getElem?_cons_succ, List.getElem?_cons_zero]; rfl
    case hs14 => kernel_rfl
    case hf14 => kernel_rfl
    case hr14 => kernel_rfl
    case hq14 => exact fun _ _ _ h => h
    case hw14 => rfl
    case hy14 =>
      intro w hSw
      (try dsimp only at hSw)
      go_simp
      try with_reducible rfl
    (try simp only [Act.put, List.setIfInBounds_toArray, List.set_cons_zero, List.set_cons_succ])
    refine wpAnyH_ready (rs := [11]) (by kernel_rfl) (by simp) ?_
    refine AllReadyH.cons (o := ?o11) ?ho11 (fun K hK => ?_) AllReadyH.nil
    case ho11 => simp only [List.getElem?_toArray, List.getElem?_cons_succ, List.getElem?_cons_zero]; rfl
    go_simp
    refine LY.out.mono ?_
    rintro e8 w8 ⟨A4, c4, rfl, hC4, hb⟩
    have HB8 := Aside0.mk (below_then (below_drew (Below.refl w7.heap.size w7)) (Nat.le_refl _) hb)
    have cl : (convert 32 9 (.slice A4 types.length c4)).run Try.prog w8 = .ok (.string (strOfNums types)) w8 := str_of hC4 (Below.refl _ _)
    clear hb hC4
    refine hK.out _ _ (KP.out _ HB8.out) (fun hHeld2 => ?_)
    clear hK K hHeld
    have hHeld := hHeld2
    clear hHeld2
    (try simp only [Act.put, List.setIfInBounds_toArray, List.set_cons_zero, List.set_cons_succ])
    refine wpAnyH_ready (rs := [12]) (by kernel_rfl) (by simp) ?_
    refine AllReadyH.cons (o := ?o12) ?ho12 (fun K hK => ?_) AllReadyH.nil
    case ho12 => simp only [List.getElem?_toArray, List.getElem?_cons_succ, List.getElem?_cons_zero]; rfl
    go_simp
    refine hK.out _ _ (KP.out _ HB8.out) (fun hHeld2 => ?_)
    clear hK K hHeld
    have hHeld := hHeld2
    clear hHeld2
    (try simp only [Act.put, List.setIfInBounds_toArray, List.set_cons_zero, List.set_cons_succ])
    refine wpAnyH_take (i := 15) (oi := ?oi15) (v := ?v15) ?hi15 ?hs15 ?hf15 ?hr15 ?hq15 (Or.inl ⟨?hw15, ?hy15⟩) (by assumption) ?rest15
    case hi15 => simp only [List.getElem?_toArray, List.getElem?_cons_succ, List.getElem?_cons_zero]; rfl
    case hs15 => kernel_rfl
    case hf15 => kernel_rfl
    case hr15 => kernel_rfl
    case hq15 => exact fun _ _ _ h => h
    case hw15 => rfl
    case hy15 =>
      intro w hSw
      (try dsimp only at hSw)
      go_simp
      try with_reducible rfl
    (try simp only [Act.put, List.setIfInBounds_toArray, List.set_cons_zero, List.set_cons_succ])
    refine wpAnyH_take (i := 16) (oi := ?oi16) (v := ?v16) ?hi16 ?hs16 ?hf16 ?hr16 ?hq16 (Or.inl ⟨?hw16, ?hy16⟩) (by assumption) ?rest16
    case hi16 => simp only [List.getElem?_toArray, List.getElem?_cons_succ, List.getElem?_cons_zero]; rfl
    case hs16 => kernel_rfl
    case hf16 => kernel_rfl
    case hr16 => kernel_rfl
    case hq16 => exact fun _ _ _ h => h
    case hw16 => rfl
    case hy16 =>
      intro w hSw
      (try dsimp only at hSw)
      go_simp
      try with_reducible rfl
    (try simp only [Act.put, List.setIfInBounds_toArray, List.set_cons_zero, List.set_cons_succ])
    refine wpAnyH_done (by kernel_rfl) ?_ _
    have S8 := Aside0.mk (S7.out.below HB8.out)
    have HC8 := Aside0.mk (below_then HB7.out HB7.out.size HB8.out)
    clear HB7 HB8 S7 LY KP C3
    go_wp2_with fail
    refine (Open_has S8.out SM1.out none 0 [] (Came.nil _ _) (Nat.zero_le _) A2 c2 want (H2.out.below HC8.out) (by have := L2.out; omega)).mono ?_
    rintro e w9 ⟨rfl, hh, hb⟩
    have S9 := Aside0.mk (show Has w.heap.size w9 g ([B1 types] ++ [⟨[], want, [], false⟩]) from hh)
    have HB9 := Aside0.mk (HC8.out.trans hb)
    clear hh hb HC8 S8
    have PC := Pop_has S9.out SM5.out 0
    rw [popM_empty _ _ _ rfl] at PC
    have PP := Aside0.mk PC
    clear PC
    go_wp2_with fail
    refine PP.out.mono ?_
    rintro e w10 ⟨rfl, hh, hb⟩
    have S10 := Aside0.mk hh
    have HB10 := Aside0.mk (HB9.out.trans hb)
    clear hh hb HB9 S9 PP
    simp only [if_neg (show ¬ (false = true) by decide)]
    have KC := Kill_has S10.out SM5.out
    rw [killM_last] at KC
    have KK := Aside0.mk KC
    clear KC
    go_wp2_with fail
    refine KK.out.mono ?_
    rintro e w11 ⟨rfl, hh, hb⟩
    have S11 := Aside0.mk (show Has w.heap.size w11 g ([B1 types] ++ [⟨[], want, [], true⟩]) from hh)
    have HB11 := Aside0.mk (HB10.out.trans hb)
    clear hh hb HB10 S10 KK
    have TC := Take_has S11.out SM6.out A2 c2 want (H2.out.below HB11.out) (by have := L2.out; omega)
    rw [take_dead _ _ rfl rfl] at TC
    have TT := Aside0.mk TC
    clear TC
    go_wp2_with fail
    refine TT.out.mono ?_
    rintro e w12 ⟨rfl, hh, hb⟩
    have S12 := Aside0.mk hh
    have HB12 := Aside0.mk (HB11.out.trans hb)
    clear hh hb HB11 S11 TT
    have CL2 := Close_has S12.out SM6.out
    rw [back_kill] at CL2
    have CC2 := Aside0.mk CL2
    clear CL2
    go_wp2_with fail
    refine CC2.out.mono ?_
    rintro e w13 ⟨A5, c5, rfl, hC5, hh, hb⟩
    have S13 := Aside0.mk hh
    have HB13 := Aside0.mk (HB12.out.trans hb)
    have cv1 : (convert 32 9 (.slice A5 want.length c5)).run Try.prog w13 = .ok (.string (strOfNums want)) w13 := str_of hC5 (Below.refl _ _)
    have cv2 : (convert 32 9 (.slice A2 want.length c2)).run Try.prog w13 = .ok (.string (strOfNums want)) w13 := str_of (H2.out.below HB13.out).c (Below.refl _ _)
    clear hh hb HB12 S12 CC2 hC5
    have hlI : (types.length : Int) ≤ 50 := by have := L0.out; omega
    go_wp2_with fail
    clear cv1 cv2
    go_loopg [14] types.length (fun d v14 w' => v14 = .int .i64 ((d : Int) - 1) ∧ Aside0 (d ≤ types.length) ∧ Aside0 (Has w.heap.size w' g [B1 (types.take d)]) ∧ Aside0 (Below w.heap.size w w'))
    case atStart => exact ⟨rfl, ⟨Nat.le_refl _⟩, ⟨by rw [List.take_length]; exact S13.out⟩, HB13⟩
    case round =>
      obtain ⟨rfl, HD, HS, HB⟩ := hrel
      clear S13 HB13
      cases gk with
      | zero =>
        have PC := Pop_has HS.out (show Small 1000000 [B1 (types.take 0)] from SM2.out) 0
        have e0 : popM [B1 (types.take 0)] 0 = (0, 200, [B1 []]) := rfl
        rw [e0] at PC
        have PP := Aside0.mk PC
        have LY := Aside0.mk (fun W (h : Has w.heap.size W g [B1 []]) => show Calls Try.prog 40 #[.pointer (some ⟨g, 0, none⟩)] W (LyingPost W []) from Lying_has h SM2.out)
        clear PC e0
        go_wp2_with (first
          | (go_at_call 41
             (with_reducible refine PP.out.mono ?_)
             rintro e w14 ⟨rfl, hh, hb⟩
             have S14 := Aside0.mk hh
             have HB14 := Aside0.mk (HB.out.trans hb)
             clear hh hb)
          | (go_at_call 40
             (with_reducible refine (LY.out _ S14.out).mono ?_)
             rintro e w15 ⟨A6, c6, rfl, _, hb⟩
             have HB15 := Aside0.mk (below_then HB14.out HB14.out.size hb)
             clear hb)
          | fail)
        go_ret
        exact ⟨rfl, HB15.out⟩
      | succ d =>
        have hd := HD.out
        have hi : d < types.length := by omega
        have hi1 : (d : Int) < (types.length : Int) := by omega
        obtain ⟨ad, e1, hx⟩ := u8_at (H0.out.below HB.out).c d hi
        subst e1
        have hx2 : ∀ W, Below wr.heap.size wr W ∨ Below w.heap.size wr W → W.cell? (ad.add d) = some (.int .u8 (rd types (d : Int))) := by
          intro W hW
          have hb : Below w.heap.size w W := by
            rcases hW with h | h
            · exact below_then HB.out HB.out.size h
            · exact HB.out.trans h
          obtain ⟨ad', e1, hx⟩ := u8_at (H0.out.below hb).c d hi
          injection e1 with e1
          rw [e1]
          exact hx
        have PC := Pop_has HS.out (show Small 1000000 [B1 (types.take (d + 1))] from ⟨by simp, by intro f hf; simp at hf; subst hf; exact ⟨by have h1 := L0.out; show (types.take (d + 1)).length ≤ _; rw [List.length_take]; omega, Nat.zero_le _, Nat.zero_le _⟩⟩) (rd types (d : Int))
        rw [back_pop types d hi] at PC
        have PP := Aside0.mk PC
        have HX := Aside0.mk hx2
        obtain ⟨x, hxx⟩ : ∃ x, x = rd types (d : Int) := ⟨_, rfl⟩
        rw [← hxx] at hx PP HX
        clear PC hx2 hxx hd
        go_wp2_with (first
          | (go_at_call 41
             (with_reducible refine PP.out.mono ?_)
             rintro e w14 ⟨rfl, hh, hb⟩
             have S14 := Aside0.mk hh
             have HB14 := Aside0.mk (HB.out.trans hb)
             have hx3 := HX.out _ (.inr hb)
             clear hh hb hx)
          | fail)
        go_roundg d
        case measure => omega
        case rel => exact ⟨by simp, ⟨by omega⟩, S14, HB14⟩
  · have hl' : types.length > 50 ∨ inner.length > 50 ∨ want.length > 50 := by omega
    clear hl
    by_cases k0 : 50 < types.length
    · have d0 : decide (50 < (types.length : Int)) = true := decide_eq_true (by omega)
      clear hl' k0
      go_enter Try.func9, Try.ntmps9
      go_wp2_with fail
      refine (awake_calls w).mono ?_
      rintro e w1 ⟨rfl, hb⟩
      have HB := Aside0.mk hb
      clear hb
      go_wp2
      go_ret
      exact ⟨rfl, HB.out⟩
    have d0 : decide (50 < (types.length : Int)) = false := decide_eq_false (by omega)
    by_cases k1 : 50 < inner.length
    · have d1 : decide (50 < (inner.length : Int)) = true := decide_eq_true (by omega)
      clear hl' k0 k1
      go_enter Try.func9, Try.ntmps9
      go_wp2_with fail
      refine (awake_calls w).mono ?_
      rintro e w1 ⟨rfl, hb⟩
      have HB := Aside0.mk hb
      clear hb
      go_wp2
      go_ret
      exact ⟨rfl, HB.out⟩
    have d1 : decide (50 < (inner.length : Int)) = false := decide_eq_false (by omega)
    have d2 : decide (50 < (want.length : Int)) = true := decide_eq_true (by omega)
    clear hl' k0 k1
    go_enter Try.func9, Try.ntmps9
    go_wp2_with fail
    refine (awake_calls w).mono ?_
    rintro e w1 ⟨rfl, hb⟩
    have HB := Aside0.mk hb
    clear hb
    go_wp2
    go_ret
    exact ⟨rfl, HB.out⟩
end Go.Proofs.Ytkpjdkmggbelfaa.Operand
