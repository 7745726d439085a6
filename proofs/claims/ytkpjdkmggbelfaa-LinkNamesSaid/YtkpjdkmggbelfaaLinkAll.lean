/- The walks of link.All and its closures. -/
import Derived.Test.YtkpjdkmggbelfaaLinkMatch
import Derived.Deep.RegionWith
namespace Go.Proofs.Ytkpjdkmggbelfaa.Link
open Go.RowKit Go.Proofs.YtkpjdkmggbelfaaW.PrintWords Go.Proofs.YtkpjdkmggbelfaaW.PrintLast Go.Proofs.YtkpjdkmggbelfaaW.PrintMore
set_option linter.unusedVariables false
set_option linter.unusedSimpArgs false

def Box (w : World) (q : Nat) (v : Value) : Prop := w.heap[q]? = some (.cells #[v] 22 (0, 0))
theorem Box.c {w : World} {q : Nat} {v : Value} (h : Box w q v) : w.cell? ⟨q, 0, none⟩ = some v := by unfold Box at h; simp [World.cell?, h]
theorem Box.below {w w' : World} {q : Nat} {v : Value} (h : Box w q v) (hb : Below w.heap.size w w') : Box w' q v := by
  unfold Box at *
  have hq : q < w.heap.size := by
    rcases Nat.lt_or_ge q w.heap.size with h1 | h1
    · exact h1
    · rw [Array.getElem?_eq_none h1] at h; cases h
  rw [hb.block q hq]; exact h
set_option maxRecDepth 100000 in
set_option maxHeartbeats 4000000 in
theorem step_calls (q p : Nat) (A0 : Option Addr) (c0 : Nat) (l0 : List Q29.S41) (A1 : Option Addr) (c1 : Nat) (l1 : List Q29.S41) (i : Nat) (w : World) (b0 : Box w q (.slice A0 l0.length c0)) (b1 : Box w p (.slice A1 l1.length c1))
    (hr0 : Kd.C Q29.k41 w A0 l0.length l0) (hr1 : Kd.C Q29.k41 w A1 l1.length l1) (h0 : i < l0.length) (h1 : i < l1.length) :
    Calls Try.prog 51 #[.int .i64 (i : Int), .pointer (some ⟨q, 0, none⟩), .pointer (some ⟨p, 0, none⟩)] w fun e w' => e = .returned (.bool (mt (Q29.rd_T41 l0 (i : Int)) (Q29.rd_T41 l1 (i : Int)))) ∧ Below w.heap.size w w' := by
  have z0 := b0.c
  have z1 := b1.c
  obtain ⟨ad0, A01, c01, A02, c02, e0, x00, x01, x02, x03, x04, x05, x06, x07, hl01, hi01, hl02, hi02⟩ := Q29.at_T41 hr0 (i : Int) (by omega) (by omega)
  subst e0
  obtain ⟨ad1, A11, c11, A12, c12, e1, x10, x11, x12, x13, x14, x15, x16, x17, hl11, hi11, hl12, hi12⟩ := Q29.at_T41 hr1 (i : Int) (by omega) (by omega)
  subst e1

  have i0 : (i : Int) < (l0.length : Int) := by omega
  have i1 : (i : Int) < (l1.length : Int) := by omega
  obtain ⟨X, hX⟩ : ∃ X, X = Q29.rd_T41 l0 (i : Int) := ⟨_, rfl⟩
  obtain ⟨Y, hY⟩ : ∃ X, X = Q29.rd_T41 l1 (i : Int) := ⟨_, rfl⟩
  rw [← hX] at x00 x01 x02 x03 x04 x05 x06 x07 hl01 hl02 hi01 hi02
  rw [← hY] at x10 x11 x12 x13 x14 x15 x16 x17 hl11 hl12 hi11 hi12
  rw [← hX, ← hY]
  have MC := Aside0.mk (fun W (hW : Below w.heap.size w W) => Match_calls X.f0 _ _ _ _ _ _ X.f2.f0 X.f2.f1 X.f2.f2 X.f3.f0 X.f3.f1 Y.f0 _ _ _ _ _ _ Y.f2.f0 Y.f2.f1 Y.f2.f2 Y.f3.f0 Y.f3.f1 W (Kd.C_below hi01 hW) hl01 (Kd.C_below hi02 hW) hl02 (Kd.C_below hi11 hW) hl11 (Kd.C_below hi12 hW) hl12)
  simp only [Int.toNat_natCast] at x00 x01 x02 x03 x04 x05 x06 x07 x10 x11 x12 x13 x14 x15 x16 x17
  clear hi01 hi02 hi11 hi12 hl01 hl02 hl11 hl12 b0 b1 hr0 hr1 hX hY
  go_enter Try.func51, Try.ntmps51
  go_wp2
  go_region_with (go_at_call 17; refine (MC.out _ (below_drew (Below.refl _ _))).mono ?_; rintro e w1 ⟨rfl, hb⟩; have HB := Aside0.mk (below_then (below_drew (Below.refl w.heap.size w)) (Nat.le_refl _) hb); clear hb)
  all_goals
    go_wp2
    go_ret
    exact ⟨rfl, HB.out⟩
/-- The first place whose things do not match; -1: there is none. -/
def firstP (l0 l1 : List Q29.S41) : Nat → Nat → Int
  | 0, _ => -1
  | d + 1, i => if mt (Q29.rd_T41 l0 (i : Int)) (Q29.rd_T41 l1 (i : Int)) = true then firstP l0 l1 d (i + 1) else (i : Int)
theorem firstP_range (l0 l1 : List Q29.S41) (d : Nat) : ∀ i, -1 ≤ firstP l0 l1 d i ∧ firstP l0 l1 d i < i + d := by
  induction d with
  | zero => intro i; simp [firstP]; omega
  | succ d ih =>
    intro i
    unfold firstP
    split
    · have := ih (i + 1); omega
    · omega
set_option maxRecDepth 100000 in
set_option maxHeartbeats 4000000 in
theorem first_calls (q p : Nat) (A0 : Option Addr) (c0 : Nat) (l0 : List Q29.S41) (A1 : Option Addr) (c1 : Nat) (l1 : List Q29.S41) (w : World) (b0 : Box w q (.slice A0 l0.length c0)) (b1 : Box w p (.slice A1 l1.length c1))
    (hr0 : Kd.C Q29.k41 w A0 l0.length l0) (hr1 : Kd.C Q29.k41 w A1 l1.length l1) (he : l0.length = l1.length) :
    Calls Try.prog 50 #[.int .i64 (l0.length : Int), .func (.func 51) #[] #[.pointer (some ⟨q, 0, none⟩), .pointer (some ⟨p, 0, none⟩)]] w fun e w' => e = .returned (.int .i64 (firstP l0 l1 l0.length 0)) ∧ Below w.heap.size w w' := by
  have HR0 := Aside0.mk hr0
  have HR1 := Aside0.mk hr1
  have B0 := Aside0.mk b0
  have B1 := Aside0.mk b1
  have HE := Aside0.mk he
  have HM := Aside0.mk (Kd.C_max hr0)
  clear hr0 hr1 b0 b1 he
  go_enter Try.func50, Try.ntmps50
  go_wp2
  go_loopg [7] l0.length (fun d v7 w' => ∃ (i : Nat), v7 = .int .i64 (i : Int) ∧ Aside0 (i + d = l0.length) ∧ Aside0 (firstP l0 l1 d i = firstP l0 l1 l0.length 0) ∧ Aside0 (Below w.heap.size w w'))
  case atStart => exact ⟨0, rfl, ⟨by omega⟩, ⟨rfl⟩, ⟨Below.refl _ _⟩⟩
  case round =>
    obtain ⟨i, rfl, HI, HA, HB⟩ := hrel
    cases gk with
    | zero =>
      have hi : i = l0.length := by have := HI.out; omega
      subst hi
      have fin := HA.out
      simp only [firstP] at fin
      have FIN := Aside0.mk fin
      clear fin HA HI
      go_wp2
      go_ret
      exact ⟨by rw [← FIN.out]; rfl, HB.out⟩
    | succ d =>
      have hi : i < l0.length := by have := HI.out; omega
      have hi1 : (i : Int) < (l0.length : Int) := by omega
      have hm : (l0.length : Int) ≤ 9223372036854775807 := by have := HM.out; omega
      have S := step_calls q p A0 c0 l0 A1 c1 l1 i wr (B0.out.below HB.out) (B1.out.below HB.out) (Kd.C_below HR0.out HB.out) (Kd.C_below HR1.out HB.out) hi (by rw [← HE.out]; exact hi)
      have hA := HA.out
      simp only [firstP] at hA
      obtain ⟨M, hM⟩ : ∃ M, M = mt (Q29.rd_T41 l0 (i : Int)) (Q29.rd_T41 l1 (i : Int)) := ⟨_, rfl⟩
      rw [← hM] at S hA
      have SS := Aside0.mk S
      clear S hM HA
      cases M with
      | true =>
        rw [if_pos rfl] at hA
        have HA := Aside0.mk hA
        clear hA
        go_wp2_with fail
        refine SS.out.mono ?_
        rintro e w2 ⟨rfl, hb⟩
        have HB2 := Aside0.mk (below_then HB.out HB.out.size hb)
        clear hb SS
        go_wp2
        go_roundg d
        case measure => omega
        case rel => exact ⟨i + 1, by simp, ⟨by have := HI.out; omega⟩, HA, HB2⟩
      | false =>
        rw [if_neg (by decide)] at hA
        have HA := Aside0.mk hA
        clear hA
        go_wp2_with fail
        refine SS.out.mono ?_
        rintro e w2 ⟨rfl, hb⟩
        have HB2 := Aside0.mk (below_then HB.out HB.out.size hb)
        clear hb SS
        go_wp2
        go_ret
        exact ⟨by rw [HA.out]; rfl, HB2.out⟩
/-- What link.All answers. -/
def allP (l0 l1 : List Q29.S41) : Int × Int := if l0.length = l1.length then (if 0 ≤ firstP l0 l1 l0.length 0 then (firstP l0 l1 l0.length 0, 301) else (0, 0)) else (0, 300)
theorem box2 (w : World) (a b : Value) : Box ((w.alloc (.cells #[a] 22)).alloc (.cells #[b] 22)) w.heap.size a ∧ Box ((w.alloc (.cells #[a] 22)).alloc (.cells #[b] 22)) (w.heap.size + 1) b ∧ Below w.heap.size w ((w.alloc (.cells #[a] 22)).alloc (.cells #[b] 22)) := by
  refine ⟨?_, ?_, below_alloc (below_alloc (Below.refl _ _) _) _⟩
  · have h : (w.alloc (.cells #[a] 22)).heap[w.heap.size]? = some (.cells #[a] 22 (0, 0)) := heap_alloc_new w _
    unfold Box
    rw [Below.heap_alloc _ _ _ (by rw [World.size_alloc]; omega)]
    exact h
  · have h := heap_alloc_new (w.alloc (.cells #[a] 22)) (.cells #[b] 22)
    rw [World.size_alloc] at h
    exact h
set_option maxRecDepth 100000 in
set_option maxHeartbeats 4000000 in
theorem All_calls (A0 : Option Addr) (c0 : Nat) (l0 : List Q29.S41) (A1 : Option Addr) (c1 : Nat) (l1 : List Q29.S41) (w : World)
    (hr0 : Kd.C Q29.k41 w A0 l0.length l0) (hr1 : Kd.C Q29.k41 w A1 l1.length l1) :
    Calls Try.prog 15 #[.slice A0 l0.length c0, .slice A1 l1.length c1] w fun e w' => e = .returned (.tuple #[.int .i64 (allP l0 l1).1, .int .i64 (allP l0 l1).2]) ∧ Below w.heap.size w w' := by
  obtain ⟨W, hW⟩ : ∃ W, W = ((w.alloc (.cells #[.slice A0 l0.length c0] 22)).alloc (.cells #[.slice A1 l1.length c1] 22)) := ⟨_, rfl⟩
  have hbx := box2 w (.slice A0 l0.length c0) (.slice A1 l1.length c1)
  rw [← hW] at hbx
  obtain ⟨b0, b1, hb⟩ := hbx
  have z0 := b0.c
  have z1 := b1.c
  by_cases c : l0.length = l1.length
  · have F := first_calls _ _ A0 c0 l0 A1 c1 l1 W b0 b1 (Kd.C_below hr0 hb) (Kd.C_below hr1 hb) c
    have hp := firstP_range l0 l1 l0.length 0
    have hv : allP l0 l1 = (if 0 ≤ firstP l0 l1 l0.length 0 then (firstP l0 l1 l0.length 0, 301) else (0, 0)) := if_pos c
    obtain ⟨r, hr⟩ : ∃ r, r = firstP l0 l1 l0.length 0 := ⟨_, rfl⟩
    rw [← hr] at F hp hv
    have d1 : ((l0.length : Int) != (l1.length : Int)) = false := by rw [bne_eq_false_iff_eq]; omega
    rw [hW] at F
    have FF := Aside0.mk F
    rw [hW] at hb
    have HB := Aside0.mk hb
    clear F hb b0 b1 hr0 hr1 hr z0 z1 hW
    have z0 : ∀ v u : Value, ((w.alloc (.cells #[v] 22)).alloc (.cells #[u] 22)).cell? ⟨w.heap.size, 0, none⟩ = some v := fun v u => (box2 w v u).1.c
    have z1 : ∀ v u : Value, ((w.alloc (.cells #[v] 22)).alloc (.cells #[u] 22)).cell? ⟨w.heap.size + 1, 0, none⟩ = some u := fun v u => (box2 w v u).2.1.c
    by_cases cr : 0 ≤ r
    · rw [if_pos cr] at hv
      have HV := Aside0.mk hv
      have d2 : decide (0 ≤ r) = true := decide_eq_true cr
      clear hv c hp
      go_enter Try.func15, Try.ntmps15
      go_wp2_with fail
      refine FF.out.mono ?_
      rintro e w1 ⟨rfl, hb⟩
      have HB2 := Aside0.mk (below_then HB.out HB.out.size hb)
      clear hb FF
      go_wp2
      go_ret2
      exact ⟨by rw [HV.out]; rfl, HB2.out⟩
    · rw [if_neg cr] at hv
      have HV := Aside0.mk hv
      have d2 : decide (0 ≤ r) = false := decide_eq_false cr
      clear hv c hp
      go_enter Try.func15, Try.ntmps15
      go_wp2_with fail
      refine FF.out.mono ?_
      rintro e w1 ⟨rfl, hb⟩
      have HB2 := Aside0.mk (below_then HB.out HB.out.size hb)
      clear hb FF
      go_wp2
      go_ret2
      exact ⟨by rw [HV.out]; rfl, HB2.out⟩
  · have hv : allP l0 l1 = (0, 300) := if_neg c
    have d1 : ((l0.length : Int) != (l1.length : Int)) = true := by rw [bne_iff_ne]; omega
    rw [hW] at hb
    have HV := Aside0.mk hv
    have HB := Aside0.mk hb
    clear hb b0 b1 hr0 hr1 z0 z1 hW hv c
    have z0 : ∀ v u : Value, ((w.alloc (.cells #[v] 22)).alloc (.cells #[u] 22)).cell? ⟨w.heap.size, 0, none⟩ = some v := fun v u => (box2 w v u).1.c
    have z1 : ∀ v u : Value, ((w.alloc (.cells #[v] 22)).alloc (.cells #[u] 22)).cell? ⟨w.heap.size + 1, 0, none⟩ = some u := fun v u => (box2 w v u).2.1.c
    go_enter Try.func15, Try.ntmps15
    go_wp2
    go_ret2
    exact ⟨by rw [HV.out]; rfl, HB.out⟩
end Go.Proofs.Ytkpjdkmggbelfaa.Link
