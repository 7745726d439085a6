/- The walk of law 22's step. -/
import Derived.Test.YtkpjdkmggbelfaaOpPair
import Derived.Test.YtkpjdkmggbelfaaOpNoneLaw
namespace Go.Proofs.Ytkpjdkmggbelfaa.Operand
open Go.RowKit Go.Proofs.YtkpjdkmggbelfaaW.PrintWords Go.Proofs.YtkpjdkmggbelfaaW.PrintLast Go.Proofs.YtkpjdkmggbelfaaW.PrintMore Go.Proofs.Ytkpjdkmggbelfaa.Mem
set_option linter.unusedVariables false
set_option linter.unusedSimpArgs false
def StepDid (base : Nat) (w : World) (g1 g2 : Nat) (P : Nat → Prop) (fs : List Fr) (e : Ending) (w' : World) : Prop := e = .returned (.bool true) ∧ Pair base w' g1 g2 fs fs P P ∧ Below base w w' ∧ ∀ k, P k → w'.heap[k]? = w.heap[k]?
theorem Pair.lt1 {base : Nat} {w : World} {g1 g2 : Nat} {fs1 fs2 : List Fr} {P1 P2 : Nat → Prop} (h : Pair base w g1 g2 fs1 fs2 P1 P2) (k : Nat) (hk : P1 k) : k < w.heap.size := by
  obtain ⟨t1, v1, k1, t2, v2, k2, a, b, c, d, e⟩ := h
  exact (d k hk).2
section
variable {base : Nat} {w : World} {g1 g2 : Nat} {fs : List Fr} {P : Nat → Prop}
set_option maxRecDepth 100000 in
set_option maxHeartbeats 4000000 in
theorem step_1 (h : Pair base w g1 g2 fs fs P P) (hs : Small 1000000 fs) (l1 l2 : List Int) (A1 A2 : Option Addr) (c1 c2 : Nat) (x3 x4 : Int) (r1 : Came base w A1 l1) (m1 : l1.length ≤ c1) (n1 : l1.length ≤ 50) (r2 : Came base w A2 l2) (m2 : l2.length ≤ c2) (n2 : l2.length ≤ 50) (u0 : 0 ≤ x4) (u1 : x4 < 4294967296) :
    Calls Try.prog 45 #[.pointer (some ⟨g1, 0, none⟩), .pointer (some ⟨g2, 0, none⟩), .agg #[.int .i64 1, .slice A1 l1.length c1, .slice A2 l2.length c2, .int .u8 x3, .int .u32 x4]] w (StepDid base w g1 g2 P (openM fs l1 l2)) := by
  have R1 := Aside0.mk r1
  have R2 := Aside0.mk r2
  have L1 := Aside0.mk (show l1.length ≤ 1000000 by omega)
  have L2 := Aside0.mk (show l2.length ≤ 1000000 by omega)
  have C1 := Aside0.mk m1
  have C2 := Aside0.mk m2
  have HS := Aside0.mk hs
  have HB := Aside0.mk ((below_alloc (Below.refl w.heap.size w) (.cells #[.int .i64 1, .slice A1 l1.length c1, .slice A2 l2.length c2, .int .u8 x3, .int .u32 x4] 133)).mono h.base_le)
  obtain ⟨Q, hQ⟩ : ∃ Q : Nat → Prop, Q = fun k => P k ∨ k = w.heap.size := ⟨_, rfl⟩
  have QP := Aside0.mk (show ∀ k, P k → Q k from fun k hk => by rw [hQ]; exact .inl hk)
  have QQ := Aside0.mk (show Q w.heap.size by rw [hQ]; exact .inr rfl)
  have HP := Aside0.mk ((h.below (below_alloc (Below.refl w.heap.size w) (.cells #[.int .i64 1, .slice A1 l1.length c1, .slice A2 l2.length c2, .int .u8 x3, .int .u32 x4] 133))).mono (Q1 := Q) (Q2 := Q) (fun k hk => by rw [hQ] at hk; exact hk.imp id fun e => by rw [World.size_alloc]; omega) (fun k hk => by rw [hQ] at hk; exact hk.imp id fun e => by rw [World.size_alloc]; omega))
  have KP := Aside0.mk (show ∀ k, P k → (w.alloc (.cells #[.int .i64 1, .slice A1 l1.length c1, .slice A2 l2.length c2, .int .u8 x3, .int .u32 x4] 133)).heap[k]? = w.heap[k]? from fun k hk => Below.heap_alloc w _ k (h.lt1 k hk))
  have BX := Aside0.mk (heap_alloc_new w (.cells #[.int .i64 1, .slice A1 l1.length c1, .slice A2 l2.length c2, .int .u8 x3, .int .u32 x4] 133))
  have HU := Aside0.mk (And.intro u0 u1)
  clear h hs r1 r2 m1 m2 n1 n2 u0 u1 hQ
  go_enter Try.func45, Try.ntmps45
  go_wp2_with fail
  have q0 : (w.alloc (.cells #[.int .i64 1, .slice A1 l1.length c1, .slice A2 l2.length c2, .int .u8 x3, .int .u32 x4] 133)).cell? ⟨w.heap.size, 0, none⟩ = some (.int .i64 1) := (blk_cell BX.out 0).trans rfl
  have q1 : (w.alloc (.cells #[.int .i64 1, .slice A1 l1.length c1, .slice A2 l2.length c2, .int .u8 x3, .int .u32 x4] 133)).cell? ⟨w.heap.size, 1, none⟩ = some (.slice A1 l1.length c1) := (blk_cell BX.out 1).trans rfl
  have q2 : (w.alloc (.cells #[.int .i64 1, .slice A1 l1.length c1, .slice A2 l2.length c2, .int .u8 x3, .int .u32 x4] 133)).cell? ⟨w.heap.size, 2, none⟩ = some (.slice A2 l2.length c2) := (blk_cell BX.out 2).trans rfl
  have q3 : (w.alloc (.cells #[.int .i64 1, .slice A1 l1.length c1, .slice A2 l2.length c2, .int .u8 x3, .int .u32 x4] 133)).cell? ⟨w.heap.size, 3, none⟩ = some (.int .u8 x3) := (blk_cell BX.out 3).trans rfl
  have q4 : (w.alloc (.cells #[.int .i64 1, .slice A1 l1.length c1, .slice A2 l2.length c2, .int .u8 x3, .int .u32 x4] 133)).cell? ⟨w.heap.size, 4, none⟩ = some (.int .u32 x4) := (blk_cell BX.out 4).trans rfl
  go_wp2_with fail
  refine (p_open HP.out HS.out A1 c1 l1 (R1.out.below HB.out) L1.out A2 c2 l2 (R2.out.below HB.out) L2.out).mono ?_
  rintro e w1 ⟨rfl, hp, hb, hk⟩
  have HP1 := Aside0.mk (hp.mono (Q1 := Q) (Q2 := Q) (fun k hk => hk) (fun k hk => .inl hk))
  have KP1 := Aside0.mk (fun k hP => (hk k (QP.out k hP)).trans (KP.out k hP))
  have HB1 := Aside0.mk (HB.out.trans hb)
  have BX1 := (hk _ QQ.out).trans BX.out
  clear q0 q1 q2 q3 q4
  have q0 : w1.cell? ⟨w.heap.size, 0, none⟩ = some (.int .i64 1) := (blk_cell BX1 0).trans rfl
  have q1 : w1.cell? ⟨w.heap.size, 1, none⟩ = some (.slice A1 l1.length c1) := (blk_cell BX1 1).trans rfl
  have q2 : w1.cell? ⟨w.heap.size, 2, none⟩ = some (.slice A2 l2.length c2) := (blk_cell BX1 2).trans rfl
  have q3 : w1.cell? ⟨w.heap.size, 3, none⟩ = some (.int .u8 x3) := (blk_cell BX1 3).trans rfl
  have q4 : w1.cell? ⟨w.heap.size, 4, none⟩ = some (.int .u32 x4) := (blk_cell BX1 4).trans rfl
  clear hp hb hk BX BX1 HP HB
  go_wp2_with fail
  refine (p_ropen HP1.out HS.out A1 c1 l1 (R1.out.below HB1.out) C1.out A2 c2 l2 (R2.out.below HB1.out) C2.out).mono ?_
  rintro e w2 ⟨rfl, hp, hb, hk⟩
  have HP2 := Aside0.mk (hp.mono (Q1 := Q) (Q2 := Q) (fun k hk => .inl hk) (fun k hk => hk))
  have KP2 := Aside0.mk (fun k hP => (hk k (QP.out k hP)).trans (KP1.out k hP))
  have HB2 := Aside0.mk (HB1.out.trans hb)
  clear hp hb hk HP1 q0 q1 q2 q3 q4
  go_wp2
  go_ret
  exact ⟨rfl, HP2.out.mono QP.out QP.out, HB2.out, KP2.out⟩
set_option maxRecDepth 100000 in
set_option maxHeartbeats 4000000 in
theorem step_3 (h : Pair base w g1 g2 fs fs P P) (hs : Small 1000000 fs) (l1 l2 : List Int) (A1 A2 : Option Addr) (c1 c2 : Nat) (x3 x4 : Int) (r1 : Came base w A1 l1) (m1 : l1.length ≤ c1) (n1 : l1.length ≤ 50) (r2 : Came base w A2 l2) (m2 : l2.length ≤ c2) (n2 : l2.length ≤ 50) (u0 : 0 ≤ x4) (u1 : x4 < 4294967296) :
    Calls Try.prog 45 #[.pointer (some ⟨g1, 0, none⟩), .pointer (some ⟨g2, 0, none⟩), .agg #[.int .i64 3, .slice A1 l1.length c1, .slice A2 l2.length c2, .int .u8 x3, .int .u32 x4]] w (StepDid base w g1 g2 P (pushM fs l1)) := by
  have R1 := Aside0.mk r1
  have R2 := Aside0.mk r2
  have L1 := Aside0.mk (show l1.length ≤ 1000000 by omega)
  have L2 := Aside0.mk (show l2.length ≤ 1000000 by omega)
  have C1 := Aside0.mk m1
  have C2 := Aside0.mk m2
  have HS := Aside0.mk hs
  have HB := Aside0.mk ((below_alloc (Below.refl w.heap.size w) (.cells #[.int .i64 3, .slice A1 l1.length c1, .slice A2 l2.length c2, .int .u8 x3, .int .u32 x4] 133)).mono h.base_le)
  obtain ⟨Q, hQ⟩ : ∃ Q : Nat → Prop, Q = fun k => P k ∨ k = w.heap.size := ⟨_, rfl⟩
  have QP := Aside0.mk (show ∀ k, P k → Q k from fun k hk => by rw [hQ]; exact .inl hk)
  have QQ := Aside0.mk (show Q w.heap.size by rw [hQ]; exact .inr rfl)
  have HP := Aside0.mk ((h.below (below_alloc (Below.refl w.heap.size w) (.cells #[.int .i64 3, .slice A1 l1.length c1, .slice A2 l2.length c2, .int .u8 x3, .int .u32 x4] 133))).mono (Q1 := Q) (Q2 := Q) (fun k hk => by rw [hQ] at hk; exact hk.imp id fun e => by rw [World.size_alloc]; omega) (fun k hk => by rw [hQ] at hk; exact hk.imp id fun e => by rw [World.size_alloc]; omega))
  have KP := Aside0.mk (show ∀ k, P k → (w.alloc (.cells #[.int .i64 3, .slice A1 l1.length c1, .slice A2 l2.length c2, .int .u8 x3, .int .u32 x4] 133)).heap[k]? = w.heap[k]? from fun k hk => Below.heap_alloc w _ k (h.lt1 k hk))
  have BX := Aside0.mk (heap_alloc_new w (.cells #[.int .i64 3, .slice A1 l1.length c1, .slice A2 l2.length c2, .int .u8 x3, .int .u32 x4] 133))
  have HU := Aside0.mk (And.intro u0 u1)
  clear h hs r1 r2 m1 m2 n1 n2 u0 u1 hQ
  go_enter Try.func45, Try.ntmps45
  go_wp2_with fail
  have q0 : (w.alloc (.cells #[.int .i64 3, .slice A1 l1.length c1, .slice A2 l2.length c2, .int .u8 x3, .int .u32 x4] 133)).cell? ⟨w.heap.size, 0, none⟩ = some (.int .i64 3) := (blk_cell BX.out 0).trans rfl
  have q1 : (w.alloc (.cells #[.int .i64 3, .slice A1 l1.length c1, .slice A2 l2.length c2, .int .u8 x3, .int .u32 x4] 133)).cell? ⟨w.heap.size, 1, none⟩ = some (.slice A1 l1.length c1) := (blk_cell BX.out 1).trans rfl
  have q2 : (w.alloc (.cells #[.int .i64 3, .slice A1 l1.length c1, .slice A2 l2.length c2, .int .u8 x3, .int .u32 x4] 133)).cell? ⟨w.heap.size, 2, none⟩ = some (.slice A2 l2.length c2) := (blk_cell BX.out 2).trans rfl
  have q3 : (w.alloc (.cells #[.int .i64 3, .slice A1 l1.length c1, .slice A2 l2.length c2, .int .u8 x3, .int .u32 x4] 133)).cell? ⟨w.heap.size, 3, none⟩ = some (.int .u8 x3) := (blk_cell BX.out 3).trans rfl
  have q4 : (w.alloc (.cells #[.int .i64 3, .slice A1 l1.length c1, .slice A2 l2.length c2, .int .u8 x3, .int .u32 x4] 133)).cell? ⟨w.heap.size, 4, none⟩ = some (.int .u32 x4) := (blk_cell BX.out 4).trans rfl
  go_wp2_with fail
  refine (p_push HP.out HS.out A1 c1 l1 (R1.out.below HB.out).c L1.out).mono ?_
  rintro e w1 ⟨rfl, hp, hb, hk⟩
  have HP1 := Aside0.mk (hp.mono (Q1 := Q) (Q2 := Q) (fun k hk => hk) (fun k hk => .inl hk))
  have KP1 := Aside0.mk (fun k hP => (hk k (QP.out k hP)).trans (KP.out k hP))
  have HB1 := Aside0.mk (HB.out.trans hb)
  have BX1 := (hk _ QQ.out).trans BX.out
  clear q0 q1 q2 q3 q4
  have q0 : w1.cell? ⟨w.heap.size, 0, none⟩ = some (.int .i64 3) := (blk_cell BX1 0).trans rfl
  have q1 : w1.cell? ⟨w.heap.size, 1, none⟩ = some (.slice A1 l1.length c1) := (blk_cell BX1 1).trans rfl
  have q2 : w1.cell? ⟨w.heap.size, 2, none⟩ = some (.slice A2 l2.length c2) := (blk_cell BX1 2).trans rfl
  have q3 : w1.cell? ⟨w.heap.size, 3, none⟩ = some (.int .u8 x3) := (blk_cell BX1 3).trans rfl
  have q4 : w1.cell? ⟨w.heap.size, 4, none⟩ = some (.int .u32 x4) := (blk_cell BX1 4).trans rfl
  clear hp hb hk BX BX1 HP HB
  go_wp2_with fail
  refine (p_rpush HP1.out HS.out A1 c1 l1 (R1.out.below HB1.out).c L1.out).mono ?_
  rintro e w2 ⟨rfl, hp, hb, hk⟩
  have HP2 := Aside0.mk (hp.mono (Q1 := Q) (Q2 := Q) (fun k hk => .inl hk) (fun k hk => hk))
  have KP2 := Aside0.mk (fun k hP => (hk k (QP.out k hP)).trans (KP1.out k hP))
  have HB2 := Aside0.mk (HB1.out.trans hb)
  clear hp hb hk HP1 q0 q1 q2 q3 q4
  go_wp2
  go_ret
  exact ⟨rfl, HP2.out.mono QP.out QP.out, HB2.out, KP2.out⟩
set_option maxRecDepth 100000 in
set_option maxHeartbeats 4000000 in
theorem step_4 (h : Pair base w g1 g2 fs fs P P) (hs : Small 1000000 fs) (l1 l2 : List Int) (A1 A2 : Option Addr) (c1 c2 : Nat) (x3 x4 : Int) (r1 : Came base w A1 l1) (m1 : l1.length ≤ c1) (n1 : l1.length ≤ 50) (r2 : Came base w A2 l2) (m2 : l2.length ≤ c2) (n2 : l2.length ≤ 50) (u0 : 0 ≤ x4) (u1 : x4 < 4294967296) :
    Calls Try.prog 45 #[.pointer (some ⟨g1, 0, none⟩), .pointer (some ⟨g2, 0, none⟩), .agg #[.int .i64 4, .slice A1 l1.length c1, .slice A2 l2.length c2, .int .u8 x3, .int .u32 x4]] w (StepDid base w g1 g2 P ((popM fs x3).2.2)) := by
  have R1 := Aside0.mk r1
  have R2 := Aside0.mk r2
  have L1 := Aside0.mk (show l1.length ≤ 1000000 by omega)
  have L2 := Aside0.mk (show l2.length ≤ 1000000 by omega)
  have C1 := Aside0.mk m1
  have C2 := Aside0.mk m2
  have HS := Aside0.mk hs
  have HB := Aside0.mk ((below_alloc (Below.refl w.heap.size w) (.cells #[.int .i64 4, .slice A1 l1.length c1, .slice A2 l2.length c2, .int .u8 x3, .int .u32 x4] 133)).mono h.base_le)
  obtain ⟨Q, hQ⟩ : ∃ Q : Nat → Prop, Q = fun k => P k ∨ k = w.heap.size := ⟨_, rfl⟩
  have QP := Aside0.mk (show ∀ k, P k → Q k from fun k hk => by rw [hQ]; exact .inl hk)
  have QQ := Aside0.mk (show Q w.heap.size by rw [hQ]; exact .inr rfl)
  have HP := Aside0.mk ((h.below (below_alloc (Below.refl w.heap.size w) (.cells #[.int .i64 4, .slice A1 l1.length c1, .slice A2 l2.length c2, .int .u8 x3, .int .u32 x4] 133))).mono (Q1 := Q) (Q2 := Q) (fun k hk => by rw [hQ] at hk; exact hk.imp id fun e => by rw [World.size_alloc]; omega) (fun k hk => by rw [hQ] at hk; exact hk.imp id fun e => by rw [World.size_alloc]; omega))
  have KP := Aside0.mk (show ∀ k, P k → (w.alloc (.cells #[.int .i64 4, .slice A1 l1.length c1, .slice A2 l2.length c2, .int .u8 x3, .int .u32 x4] 133)).heap[k]? = w.heap[k]? from fun k hk => Below.heap_alloc w _ k (h.lt1 k hk))
  have BX := Aside0.mk (heap_alloc_new w (.cells #[.int .i64 4, .slice A1 l1.length c1, .slice A2 l2.length c2, .int .u8 x3, .int .u32 x4] 133))
  have HU := Aside0.mk (And.intro u0 u1)
  clear h hs r1 r2 m1 m2 n1 n2 u0 u1 hQ
  go_enter Try.func45, Try.ntmps45
  go_wp2_with fail
  have q0 : (w.alloc (.cells #[.int .i64 4, .slice A1 l1.length c1, .slice A2 l2.length c2, .int .u8 x3, .int .u32 x4] 133)).cell? ⟨w.heap.size, 0, none⟩ = some (.int .i64 4) := (blk_cell BX.out 0).trans rfl
  have q1 : (w.alloc (.cells #[.int .i64 4, .slice A1 l1.length c1, .slice A2 l2.length c2, .int .u8 x3, .int .u32 x4] 133)).cell? ⟨w.heap.size, 1, none⟩ = some (.slice A1 l1.length c1) := (blk_cell BX.out 1).trans rfl
  have q2 : (w.alloc (.cells #[.int .i64 4, .slice A1 l1.length c1, .slice A2 l2.length c2, .int .u8 x3, .int .u32 x4] 133)).cell? ⟨w.heap.size, 2, none⟩ = some (.slice A2 l2.length c2) := (blk_cell BX.out 2).trans rfl
  have q3 : (w.alloc (.cells #[.int .i64 4, .slice A1 l1.length c1, .slice A2 l2.length c2, .int .u8 x3, .int .u32 x4] 133)).cell? ⟨w.heap.size, 3, none⟩ = some (.int .u8 x3) := (blk_cell BX.out 3).trans rfl
  have q4 : (w.alloc (.cells #[.int .i64 4, .slice A1 l1.length c1, .slice A2 l2.length c2, .int .u8 x3, .int .u32 x4] 133)).cell? ⟨w.heap.size, 4, none⟩ = some (.int .u32 x4) := (blk_cell BX.out 4).trans rfl
  go_wp2_with fail
  refine (p_pop HP.out HS.out x3).mono ?_
  rintro e w1 ⟨rfl, hp, hb, hk⟩
  have HP1 := Aside0.mk (hp.mono (Q1 := Q) (Q2 := Q) (fun k hk => hk) (fun k hk => .inl hk))
  have KP1 := Aside0.mk (fun k hP => (hk k (QP.out k hP)).trans (KP.out k hP))
  have HB1 := Aside0.mk (HB.out.trans hb)
  have BX1 := (hk _ QQ.out).trans BX.out
  clear q0 q1 q2 q3 q4
  have q0 : w1.cell? ⟨w.heap.size, 0, none⟩ = some (.int .i64 4) := (blk_cell BX1 0).trans rfl
  have q1 : w1.cell? ⟨w.heap.size, 1, none⟩ = some (.slice A1 l1.length c1) := (blk_cell BX1 1).trans rfl
  have q2 : w1.cell? ⟨w.heap.size, 2, none⟩ = some (.slice A2 l2.length c2) := (blk_cell BX1 2).trans rfl
  have q3 : w1.cell? ⟨w.heap.size, 3, none⟩ = some (.int .u8 x3) := (blk_cell BX1 3).trans rfl
  have q4 : w1.cell? ⟨w.heap.size, 4, none⟩ = some (.int .u32 x4) := (blk_cell BX1 4).trans rfl
  clear hp hb hk BX BX1 HP HB
  go_wp2_with fail
  refine (p_rpop HP1.out HS.out x3).mono ?_
  rintro e w2 ⟨rfl, hp, hb, hk⟩
  have HP2 := Aside0.mk (hp.mono (Q1 := Q) (Q2 := Q) (fun k hk => .inl hk) (fun k hk => hk))
  have KP2 := Aside0.mk (fun k hP => (hk k (QP.out k hP)).trans (KP1.out k hP))
  have HB2 := Aside0.mk (HB1.out.trans hb)
  clear hp hb hk HP1 q0 q1 q2 q3 q4
  go_wp2
  go_ret
  exact ⟨by simp, HP2.out.mono QP.out QP.out, HB2.out, KP2.out⟩
set_option maxRecDepth 100000 in
set_option maxHeartbeats 4000000 in
theorem step_6 (h : Pair base w g1 g2 fs fs P P) (hs : Small 1000000 fs) (l1 l2 : List Int) (A1 A2 : Option Addr) (c1 c2 : Nat) (x3 x4 : Int) (r1 : Came base w A1 l1) (m1 : l1.length ≤ c1) (n1 : l1.length ≤ 50) (r2 : Came base w A2 l2) (m2 : l2.length ≤ c2) (n2 : l2.length ≤ 50) (u0 : 0 ≤ x4) (u1 : x4 < 4294967296) :
    Calls Try.prog 45 #[.pointer (some ⟨g1, 0, none⟩), .pointer (some ⟨g2, 0, none⟩), .agg #[.int .i64 6, .slice A1 l1.length c1, .slice A2 l2.length c2, .int .u8 x3, .int .u32 x4]] w (StepDid base w g1 g2 P (killM fs)) := by
  have R1 := Aside0.mk r1
  have R2 := Aside0.mk r2
  have L1 := Aside0.mk (show l1.length ≤ 1000000 by omega)
  have L2 := Aside0.mk (show l2.length ≤ 1000000 by omega)
  have C1 := Aside0.mk m1
  have C2 := Aside0.mk m2
  have HS := Aside0.mk hs
  have HB := Aside0.mk ((below_alloc (Below.refl w.heap.size w) (.cells #[.int .i64 6, .slice A1 l1.length c1, .slice A2 l2.length c2, .int .u8 x3, .int .u32 x4] 133)).mono h.base_le)
  obtain ⟨Q, hQ⟩ : ∃ Q : Nat → Prop, Q = fun k => P k ∨ k = w.heap.size := ⟨_, rfl⟩
  have QP := Aside0.mk (show ∀ k, P k → Q k from fun k hk => by rw [hQ]; exact .inl hk)
  have QQ := Aside0.mk (show Q w.heap.size by rw [hQ]; exact .inr rfl)
  have HP := Aside0.mk ((h.below (below_alloc (Below.refl w.heap.size w) (.cells #[.int .i64 6, .slice A1 l1.length c1, .slice A2 l2.length c2, .int .u8 x3, .int .u32 x4] 133))).mono (Q1 := Q) (Q2 := Q) (fun k hk => by rw [hQ] at hk; exact hk.imp id fun e => by rw [World.size_alloc]; omega) (fun k hk => by rw [hQ] at hk; exact hk.imp id fun e => by rw [World.size_alloc]; omega))
  have KP := Aside0.mk (show ∀ k, P k → (w.alloc (.cells #[.int .i64 6, .slice A1 l1.length c1, .slice A2 l2.length c2, .int .u8 x3, .int .u32 x4] 133)).heap[k]? = w.heap[k]? from fun k hk => Below.heap_alloc w _ k (h.lt1 k hk))
  have BX := Aside0.mk (heap_alloc_new w (.cells #[.int .i64 6, .slice A1 l1.length c1, .slice A2 l2.length c2, .int .u8 x3, .int .u32 x4] 133))
  have HU := Aside0.mk (And.intro u0 u1)
  clear h hs r1 r2 m1 m2 n1 n2 u0 u1 hQ
  go_enter Try.func45, Try.ntmps45
  go_wp2_with fail
  have q0 : (w.alloc (.cells #[.int .i64 6, .slice A1 l1.length c1, .slice A2 l2.length c2, .int .u8 x3, .int .u32 x4] 133)).cell? ⟨w.heap.size, 0, none⟩ = some (.int .i64 6) := (blk_cell BX.out 0).trans rfl
  have q1 : (w.alloc (.cells #[.int .i64 6, .slice A1 l1.length c1, .slice A2 l2.length c2, .int .u8 x3, .int .u32 x4] 133)).cell? ⟨w.heap.size, 1, none⟩ = some (.slice A1 l1.length c1) := (blk_cell BX.out 1).trans rfl
  have q2 : (w.alloc (.cells #[.int .i64 6, .slice A1 l1.length c1, .slice A2 l2.length c2, .int .u8 x3, .int .u32 x4] 133)).cell? ⟨w.heap.size, 2, none⟩ = some (.slice A2 l2.length c2) := (blk_cell BX.out 2).trans rfl
  have q3 : (w.alloc (.cells #[.int .i64 6, .slice A1 l1.length c1, .slice A2 l2.length c2, .int .u8 x3, .int .u32 x4] 133)).cell? ⟨w.heap.size, 3, none⟩ = some (.int .u8 x3) := (blk_cell BX.out 3).trans rfl
  have q4 : (w.alloc (.cells #[.int .i64 6, .slice A1 l1.length c1, .slice A2 l2.length c2, .int .u8 x3, .int .u32 x4] 133)).cell? ⟨w.heap.size, 4, none⟩ = some (.int .u32 x4) := (blk_cell BX.out 4).trans rfl
  go_wp2_with fail
  refine (p_kill HP.out HS.out).mono ?_
  rintro e w1 ⟨rfl, hp, hb, hk⟩
  have HP1 := Aside0.mk (hp.mono (Q1 := Q) (Q2 := Q) (fun k hk => hk) (fun k hk => .inl hk))
  have KP1 := Aside0.mk (fun k hP => (hk k (QP.out k hP)).trans (KP.out k hP))
  have HB1 := Aside0.mk (HB.out.trans hb)
  have BX1 := (hk _ QQ.out).trans BX.out
  clear q0 q1 q2 q3 q4
  have q0 : w1.cell? ⟨w.heap.size, 0, none⟩ = some (.int .i64 6) := (blk_cell BX1 0).trans rfl
  have q1 : w1.cell? ⟨w.heap.size, 1, none⟩ = some (.slice A1 l1.length c1) := (blk_cell BX1 1).trans rfl
  have q2 : w1.cell? ⟨w.heap.size, 2, none⟩ = some (.slice A2 l2.length c2) := (blk_cell BX1 2).trans rfl
  have q3 : w1.cell? ⟨w.heap.size, 3, none⟩ = some (.int .u8 x3) := (blk_cell BX1 3).trans rfl
  have q4 : w1.cell? ⟨w.heap.size, 4, none⟩ = some (.int .u32 x4) := (blk_cell BX1 4).trans rfl
  clear hp hb hk BX BX1 HP HB
  go_wp2_with fail
  refine (p_rkill HP1.out HS.out).mono ?_
  rintro e w2 ⟨rfl, hp, hb, hk⟩
  have HP2 := Aside0.mk (hp.mono (Q1 := Q) (Q2 := Q) (fun k hk => .inl hk) (fun k hk => hk))
  have KP2 := Aside0.mk (fun k hP => (hk k (QP.out k hP)).trans (KP1.out k hP))
  have HB2 := Aside0.mk (HB1.out.trans hb)
  clear hp hb hk HP1 q0 q1 q2 q3 q4
  go_wp2
  go_ret
  exact ⟨rfl, HP2.out.mono QP.out QP.out, HB2.out, KP2.out⟩
set_option maxRecDepth 100000 in
set_option maxHeartbeats 4000000 in
theorem step_0 (kd : Int) (hk : kd ≠ 1 ∧ kd ≠ 2 ∧ kd ≠ 3 ∧ kd ≠ 4 ∧ kd ≠ 5 ∧ kd ≠ 6 ∧ kd ≠ 7) (h : Pair base w g1 g2 fs fs P P) (hs : Small 1000000 fs) (l1 l2 : List Int) (A1 A2 : Option Addr) (c1 c2 : Nat) (x3 x4 : Int) (r1 : Came base w A1 l1) (m1 : l1.length ≤ c1) (n1 : l1.length ≤ 50) (r2 : Came base w A2 l2) (m2 : l2.length ≤ c2) (n2 : l2.length ≤ 50) (u0 : 0 ≤ x4) (u1 : x4 < 4294967296) :
    Calls Try.prog 45 #[.pointer (some ⟨g1, 0, none⟩), .pointer (some ⟨g2, 0, none⟩), .agg #[.int .i64 kd, .slice A1 l1.length c1, .slice A2 l2.length c2, .int .u8 x3, .int .u32 x4]] w (StepDid base w g1 g2 P (fs)) := by
  have R1 := Aside0.mk r1
  have R2 := Aside0.mk r2
  have L1 := Aside0.mk (show l1.length ≤ 1000000 by omega)
  have L2 := Aside0.mk (show l2.length ≤ 1000000 by omega)
  have C1 := Aside0.mk m1
  have C2 := Aside0.mk m2
  have HS := Aside0.mk hs
  have HB := Aside0.mk ((below_alloc (Below.refl w.heap.size w) (.cells #[.int .i64 kd, .slice A1 l1.length c1, .slice A2 l2.length c2, .int .u8 x3, .int .u32 x4] 133)).mono h.base_le)
  obtain ⟨Q, hQ⟩ : ∃ Q : Nat → Prop, Q = fun k => P k ∨ k = w.heap.size := ⟨_, rfl⟩
  have QP := Aside0.mk (show ∀ k, P k → Q k from fun k hk => by rw [hQ]; exact .inl hk)
  have QQ := Aside0.mk (show Q w.heap.size by rw [hQ]; exact .inr rfl)
  have HP := Aside0.mk ((h.below (below_alloc (Below.refl w.heap.size w) (.cells #[.int .i64 kd, .slice A1 l1.length c1, .slice A2 l2.length c2, .int .u8 x3, .int .u32 x4] 133))).mono (Q1 := Q) (Q2 := Q) (fun k hk => by rw [hQ] at hk; exact hk.imp id fun e => by rw [World.size_alloc]; omega) (fun k hk => by rw [hQ] at hk; exact hk.imp id fun e => by rw [World.size_alloc]; omega))
  have KP := Aside0.mk (show ∀ k, P k → (w.alloc (.cells #[.int .i64 kd, .slice A1 l1.length c1, .slice A2 l2.length c2, .int .u8 x3, .int .u32 x4] 133)).heap[k]? = w.heap[k]? from fun k hk => Below.heap_alloc w _ k (h.lt1 k hk))
  have BX := Aside0.mk (heap_alloc_new w (.cells #[.int .i64 kd, .slice A1 l1.length c1, .slice A2 l2.length c2, .int .u8 x3, .int .u32 x4] 133))
  have HU := Aside0.mk (And.intro u0 u1)
  clear h hs r1 r2 m1 m2 n1 n2 u0 u1 hQ
  go_enter Try.func45, Try.ntmps45
  go_wp2_with fail
  have q0 : (w.alloc (.cells #[.int .i64 kd, .slice A1 l1.length c1, .slice A2 l2.length c2, .int .u8 x3, .int .u32 x4] 133)).cell? ⟨w.heap.size, 0, none⟩ = some (.int .i64 kd) := (blk_cell BX.out 0).trans rfl
  have q1 : (w.alloc (.cells #[.int .i64 kd, .slice A1 l1.length c1, .slice A2 l2.length c2, .int .u8 x3, .int .u32 x4] 133)).cell? ⟨w.heap.size, 1, none⟩ = some (.slice A1 l1.length c1) := (blk_cell BX.out 1).trans rfl
  have q2 : (w.alloc (.cells #[.int .i64 kd, .slice A1 l1.length c1, .slice A2 l2.length c2, .int .u8 x3, .int .u32 x4] 133)).cell? ⟨w.heap.size, 2, none⟩ = some (.slice A2 l2.length c2) := (blk_cell BX.out 2).trans rfl
  have q3 : (w.alloc (.cells #[.int .i64 kd, .slice A1 l1.length c1, .slice A2 l2.length c2, .int .u8 x3, .int .u32 x4] 133)).cell? ⟨w.heap.size, 3, none⟩ = some (.int .u8 x3) := (blk_cell BX.out 3).trans rfl
  have q4 : (w.alloc (.cells #[.int .i64 kd, .slice A1 l1.length c1, .slice A2 l2.length c2, .int .u8 x3, .int .u32 x4] 133)).cell? ⟨w.heap.size, 4, none⟩ = some (.int .u32 x4) := (blk_cell BX.out 4).trans rfl
  have e1 : (kd == 1) = false := beq_eq_false_iff_ne.2 (by omega)
  have e2 : (kd == 2) = false := beq_eq_false_iff_ne.2 (by omega)
  have e3 : (kd == 3) = false := beq_eq_false_iff_ne.2 (by omega)
  have e4 : (kd == 4) = false := beq_eq_false_iff_ne.2 (by omega)
  have e5 : (kd == 5) = false := beq_eq_false_iff_ne.2 (by omega)
  have e6 : (kd == 6) = false := beq_eq_false_iff_ne.2 (by omega)
  have e7 : (kd == 7) = false := beq_eq_false_iff_ne.2 (by omega)
  have HP2 := HP
  have HB2 := HB
  have KP2 := KP
  clear hk BX HP HB
  go_wp2
  go_ret
  exact ⟨rfl, HP2.out.mono QP.out QP.out, HB2.out, KP2.out⟩
set_option maxRecDepth 100000 in
set_option maxHeartbeats 4000000 in
theorem step_2 (h : Pair base w g1 g2 fs fs P P) (hs : Small 1000000 fs) (l1 l2 : List Int) (A1 A2 : Option Addr) (c1 c2 : Nat) (x3 x4 : Int) (r1 : Came base w A1 l1) (m1 : l1.length ≤ c1) (n1 : l1.length ≤ 50) (r2 : Came base w A2 l2) (m2 : l2.length ≤ c2) (n2 : l2.length ≤ 50) (u0 : 0 ≤ x4) (u1 : x4 < 4294967296) :
    Calls Try.prog 45 #[.pointer (some ⟨g1, 0, none⟩), .pointer (some ⟨g2, 0, none⟩), .agg #[.int .i64 2, .slice A1 l1.length c1, .slice A2 l2.length c2, .int .u8 x3, .int .u32 x4]] w (StepDid base w g1 g2 P ((closeM fs).2.2)) := by
  have R1 := Aside0.mk r1
  have R2 := Aside0.mk r2
  have L1 := Aside0.mk (show l1.length ≤ 1000000 by omega)
  have L2 := Aside0.mk (show l2.length ≤ 1000000 by omega)
  have C1 := Aside0.mk m1
  have C2 := Aside0.mk m2
  have HS := Aside0.mk hs
  have HB := Aside0.mk ((below_alloc (Below.refl w.heap.size w) (.cells #[.int .i64 2, .slice A1 l1.length c1, .slice A2 l2.length c2, .int .u8 x3, .int .u32 x4] 133)).mono h.base_le)
  obtain ⟨Q, hQ⟩ : ∃ Q : Nat → Prop, Q = fun k => P k ∨ k = w.heap.size := ⟨_, rfl⟩
  have QP := Aside0.mk (show ∀ k, P k → Q k from fun k hk => by rw [hQ]; exact .inl hk)
  have QQ := Aside0.mk (show Q w.heap.size by rw [hQ]; exact .inr rfl)
  have HP := Aside0.mk ((h.below (below_alloc (Below.refl w.heap.size w) (.cells #[.int .i64 2, .slice A1 l1.length c1, .slice A2 l2.length c2, .int .u8 x3, .int .u32 x4] 133))).mono (Q1 := Q) (Q2 := Q) (fun k hk => by rw [hQ] at hk; exact hk.imp id fun e => by rw [World.size_alloc]; omega) (fun k hk => by rw [hQ] at hk; exact hk.imp id fun e => by rw [World.size_alloc]; omega))
  have KP := Aside0.mk (show ∀ k, P k → (w.alloc (.cells #[.int .i64 2, .slice A1 l1.length c1, .slice A2 l2.length c2, .int .u8 x3, .int .u32 x4] 133)).heap[k]? = w.heap[k]? from fun k hk => Below.heap_alloc w _ k (h.lt1 k hk))
  have BX := Aside0.mk (heap_alloc_new w (.cells #[.int .i64 2, .slice A1 l1.length c1, .slice A2 l2.length c2, .int .u8 x3, .int .u32 x4] 133))
  have HU := Aside0.mk (And.intro u0 u1)
  clear h hs r1 r2 m1 m2 n1 n2 u0 u1 hQ
  go_enter Try.func45, Try.ntmps45
  go_wp2_with fail
  have q0 : (w.alloc (.cells #[.int .i64 2, .slice A1 l1.length c1, .slice A2 l2.length c2, .int .u8 x3, .int .u32 x4] 133)).cell? ⟨w.heap.size, 0, none⟩ = some (.int .i64 2) := (blk_cell BX.out 0).trans rfl
  have q1 : (w.alloc (.cells #[.int .i64 2, .slice A1 l1.length c1, .slice A2 l2.length c2, .int .u8 x3, .int .u32 x4] 133)).cell? ⟨w.heap.size, 1, none⟩ = some (.slice A1 l1.length c1) := (blk_cell BX.out 1).trans rfl
  have q2 : (w.alloc (.cells #[.int .i64 2, .slice A1 l1.length c1, .slice A2 l2.length c2, .int .u8 x3, .int .u32 x4] 133)).cell? ⟨w.heap.size, 2, none⟩ = some (.slice A2 l2.length c2) := (blk_cell BX.out 2).trans rfl
  have q3 : (w.alloc (.cells #[.int .i64 2, .slice A1 l1.length c1, .slice A2 l2.length c2, .int .u8 x3, .int .u32 x4] 133)).cell? ⟨w.heap.size, 3, none⟩ = some (.int .u8 x3) := (blk_cell BX.out 3).trans rfl
  have q4 : (w.alloc (.cells #[.int .i64 2, .slice A1 l1.length c1, .slice A2 l2.length c2, .int .u8 x3, .int .u32 x4] 133)).cell? ⟨w.heap.size, 4, none⟩ = some (.int .u32 x4) := (blk_cell BX.out 4).trans rfl
  go_wp2_with fail
  refine (p_close HP.out HS.out).mono ?_
  rintro e w1 ⟨A3, c3, rfl, hf, hp, hb, hk⟩
  have HP1 := Aside0.mk hp
  have KP1 := Aside0.mk (fun k hP => (hk k (QP.out k hP)).trans (KP.out k hP))
  have HB1 := Aside0.mk (HB.out.trans hb)
  have F1 := Aside0.mk hf
  clear hp hb hk hf HP HB BX q0 q1 q2 q3 q4
  go_wp2_with fail
  refine (p_rclose HP1.out HS.out).mono ?_
  rintro e w2 ⟨A4, c4, rfl, hC, hp, hb, hk⟩
  have HP2 := Aside0.mk (hp.mono (Q1 := Q) (Q2 := Q) (fun k hk => .inl hk) (fun k hk => .inl hk))
  have KP2 := Aside0.mk (fun k hP => (hk k (.inl (QP.out k hP))).trans (KP1.out k hP))
  have HB2 := Aside0.mk (HB1.out.trans hb)
  have cv1 : (convert 32 9 (.slice A3 (closeM fs).1.length c3)).run Try.prog w2 = .ok (.string (strOfNums (closeM fs).1)) w2 := str_of (Kd.F_now (Kd.F_step F1.out fun k hk1 _ => hk k (.inr hk1))) (Below.refl _ _)
  have cv2 : (convert 32 9 (.slice A4 (closeM fs).1.length c4)).run Try.prog w2 = .ok (.string (strOfNums (closeM fs).1)) w2 := str_of hC (Below.refl _ _)
  clear hp hb hk hC HP1
  go_wp2
  go_ret
  exact ⟨by simp, HP2.out.mono QP.out QP.out, HB2.out, KP2.out⟩
set_option maxRecDepth 100000 in
set_option maxHeartbeats 4000000 in
theorem step_7 (h : Pair base w g1 g2 fs fs P P) (hs : Small 1000000 fs) (l1 l2 : List Int) (A1 A2 : Option Addr) (c1 c2 : Nat) (x3 x4 : Int) (r1 : Came base w A1 l1) (m1 : l1.length ≤ c1) (n1 : l1.length ≤ 50) (r2 : Came base w A2 l2) (m2 : l2.length ≤ c2) (n2 : l2.length ≤ 50) (u0 : 0 ≤ x4) (u1 : x4 < 4294967296) :
    Calls Try.prog 45 #[.pointer (some ⟨g1, 0, none⟩), .pointer (some ⟨g2, 0, none⟩), .agg #[.int .i64 7, .slice A1 l1.length c1, .slice A2 l2.length c2, .int .u8 x3, .int .u32 x4]] w (StepDid base w g1 g2 P (fs)) := by
  have R1 := Aside0.mk r1
  have R2 := Aside0.mk r2
  have L1 := Aside0.mk (show l1.length ≤ 1000000 by omega)
  have L2 := Aside0.mk (show l2.length ≤ 1000000 by omega)
  have C1 := Aside0.mk m1
  have C2 := Aside0.mk m2
  have HS := Aside0.mk hs
  have HB := Aside0.mk ((below_alloc (Below.refl w.heap.size w) (.cells #[.int .i64 7, .slice A1 l1.length c1, .slice A2 l2.length c2, .int .u8 x3, .int .u32 x4] 133)).mono h.base_le)
  obtain ⟨Q, hQ⟩ : ∃ Q : Nat → Prop, Q = fun k => P k ∨ k = w.heap.size := ⟨_, rfl⟩
  have QP := Aside0.mk (show ∀ k, P k → Q k from fun k hk => by rw [hQ]; exact .inl hk)
  have QQ := Aside0.mk (show Q w.heap.size by rw [hQ]; exact .inr rfl)
  have HP := Aside0.mk ((h.below (below_alloc (Below.refl w.heap.size w) (.cells #[.int .i64 7, .slice A1 l1.length c1, .slice A2 l2.length c2, .int .u8 x3, .int .u32 x4] 133))).mono (Q1 := Q) (Q2 := Q) (fun k hk => by rw [hQ] at hk; exact hk.imp id fun e => by rw [World.size_alloc]; omega) (fun k hk => by rw [hQ] at hk; exact hk.imp id fun e => by rw [World.size_alloc]; omega))
  have KP := Aside0.mk (show ∀ k, P k → (w.alloc (.cells #[.int .i64 7, .slice A1 l1.length c1, .slice A2 l2.length c2, .int .u8 x3, .int .u32 x4] 133)).heap[k]? = w.heap[k]? from fun k hk => Below.heap_alloc w _ k (h.lt1 k hk))
  have BX := Aside0.mk (heap_alloc_new w (.cells #[.int .i64 7, .slice A1 l1.length c1, .slice A2 l2.length c2, .int .u8 x3, .int .u32 x4] 133))
  have HU := Aside0.mk (And.intro u0 u1)
  clear h hs r1 r2 m1 m2 n1 n2 u0 u1 hQ
  go_enter Try.func45, Try.ntmps45
  go_wp2_with fail
  have q0 : (w.alloc (.cells #[.int .i64 7, .slice A1 l1.length c1, .slice A2 l2.length c2, .int .u8 x3, .int .u32 x4] 133)).cell? ⟨w.heap.size, 0, none⟩ = some (.int .i64 7) := (blk_cell BX.out 0).trans rfl
  have q1 : (w.alloc (.cells #[.int .i64 7, .slice A1 l1.length c1, .slice A2 l2.length c2, .int .u8 x3, .int .u32 x4] 133)).cell? ⟨w.heap.size, 1, none⟩ = some (.slice A1 l1.length c1) := (blk_cell BX.out 1).trans rfl
  have q2 : (w.alloc (.cells #[.int .i64 7, .slice A1 l1.length c1, .slice A2 l2.length c2, .int .u8 x3, .int .u32 x4] 133)).cell? ⟨w.heap.size, 2, none⟩ = some (.slice A2 l2.length c2) := (blk_cell BX.out 2).trans rfl
  have q3 : (w.alloc (.cells #[.int .i64 7, .slice A1 l1.length c1, .slice A2 l2.length c2, .int .u8 x3, .int .u32 x4] 133)).cell? ⟨w.heap.size, 3, none⟩ = some (.int .u8 x3) := (blk_cell BX.out 3).trans rfl
  have q4 : (w.alloc (.cells #[.int .i64 7, .slice A1 l1.length c1, .slice A2 l2.length c2, .int .u8 x3, .int .u32 x4] 133)).cell? ⟨w.heap.size, 4, none⟩ = some (.int .u32 x4) := (blk_cell BX.out 4).trans rfl
  go_wp2_with fail
  refine (p_label HP.out HS.out x4 HU.out.1 HU.out.2).mono ?_
  rintro e w1 ⟨A3, c3, rfl, hC3, hb⟩
  have HP1 := Aside0.mk ((HP.out.below hb).mono (Q1 := Q) (Q2 := Q) (fun k hk => .inl hk) (fun k hk => .inl hk))
  have KP1 := Aside0.mk (fun k hP => (hb.block k (HP.out.lt1 k (QP.out k hP))).trans (KP.out k hP))
  have HB1 := Aside0.mk (HB.out.trans (hb.mono HP.out.base_le))
  have BX1 := (hb.block _ (by rw [World.size_alloc]; omega)).trans BX.out
  have F1 := Aside0.mk hC3
  clear q0 q1 q2 q3 q4
  have q0 : w1.cell? ⟨w.heap.size, 0, none⟩ = some (.int .i64 7) := (blk_cell BX1 0).trans rfl
  have q1 : w1.cell? ⟨w.heap.size, 1, none⟩ = some (.slice A1 l1.length c1) := (blk_cell BX1 1).trans rfl
  have q2 : w1.cell? ⟨w.heap.size, 2, none⟩ = some (.slice A2 l2.length c2) := (blk_cell BX1 2).trans rfl
  have q3 : w1.cell? ⟨w.heap.size, 3, none⟩ = some (.int .u8 x3) := (blk_cell BX1 3).trans rfl
  have q4 : w1.cell? ⟨w.heap.size, 4, none⟩ = some (.int .u32 x4) := (blk_cell BX1 4).trans rfl
  clear hb hC3 HP HB BX BX1
  go_wp2_with fail
  refine (p_rlabel HP1.out HS.out x4 HU.out.1 HU.out.2).mono ?_
  rintro e w2 ⟨A4, c4, rfl, hC, hb⟩
  have HP2 := Aside0.mk ((HP1.out.below hb).mono (Q1 := Q) (Q2 := Q) (fun k hk => .inl hk) (fun k hk => .inl hk))
  have KP2 := Aside0.mk (fun k hP => (hb.block k (HP1.out.lt1 k (QP.out k hP))).trans (KP1.out k hP))
  have HB2 := Aside0.mk (HB1.out.trans (hb.mono HP1.out.base_le))
  have cv1 : (convert 32 9 (.slice A3 (labelM fs x4).1.length c3)).run Try.prog w2 = .ok (.string (strOfNums (labelM fs x4).1)) w2 := str_of (Kd.C_below F1.out hb) (Below.refl _ _)
  have cv2 : (convert 32 9 (.slice A4 (labelM fs x4).1.length c4)).run Try.prog w2 = .ok (.string (strOfNums (labelM fs x4).1)) w2 := str_of hC (Below.refl _ _)
  clear hb hC HP1 q0 q1 q2 q3 q4
  go_wp2
  go_ret
  exact ⟨by simp, HP2.out.mono QP.out QP.out, HB2.out, KP2.out⟩
set_option maxRecDepth 100000 in
set_option maxHeartbeats 4000000 in
theorem step_5 (h : Pair base w g1 g2 fs fs P P) (hs : Small 1000000 fs) (l1 l2 : List Int) (A1 A2 : Option Addr) (c1 c2 : Nat) (x3 x4 : Int) (r1 : Came base w A1 l1) (m1 : l1.length ≤ c1) (n1 : l1.length ≤ 50) (r2 : Came base w A2 l2) (m2 : l2.length ≤ c2) (n2 : l2.length ≤ 50) (u0 : 0 ≤ x4) (u1 : x4 < 4294967296) :
    Calls Try.prog 45 #[.pointer (some ⟨g1, 0, none⟩), .pointer (some ⟨g2, 0, none⟩), .agg #[.int .i64 5, .slice A1 l1.length c1, .slice A2 l2.length c2, .int .u8 x3, .int .u32 x4]] w (StepDid base w g1 g2 P ((takeM fs l1.reverse).2)) := by
  have R1 := Aside0.mk r1
  have R2 := Aside0.mk r2
  have L1 := Aside0.mk (show l1.length ≤ 1000000 by omega)
  have L2 := Aside0.mk (show l2.length ≤ 1000000 by omega)
  have C1 := Aside0.mk m1
  have C2 := Aside0.mk m2
  have HS := Aside0.mk hs
  have HB := Aside0.mk ((below_alloc (Below.refl w.heap.size w) (.cells #[.int .i64 5, .slice A1 l1.length c1, .slice A2 l2.length c2, .int .u8 x3, .int .u32 x4] 133)).mono h.base_le)
  obtain ⟨Q, hQ⟩ : ∃ Q : Nat → Prop, Q = fun k => P k ∨ k = w.heap.size := ⟨_, rfl⟩
  have QP := Aside0.mk (show ∀ k, P k → Q k from fun k hk => by rw [hQ]; exact .inl hk)
  have QQ := Aside0.mk (show Q w.heap.size by rw [hQ]; exact .inr rfl)
  have HP := Aside0.mk ((h.below (below_alloc (Below.refl w.heap.size w) (.cells #[.int .i64 5, .slice A1 l1.length c1, .slice A2 l2.length c2, .int .u8 x3, .int .u32 x4] 133))).mono (Q1 := Q) (Q2 := Q) (fun k hk => by rw [hQ] at hk; exact hk.imp id fun e => by rw [World.size_alloc]; omega) (fun k hk => by rw [hQ] at hk; exact hk.imp id fun e => by rw [World.size_alloc]; omega))
  have KP := Aside0.mk (show ∀ k, P k → (w.alloc (.cells #[.int .i64 5, .slice A1 l1.length c1, .slice A2 l2.length c2, .int .u8 x3, .int .u32 x4] 133)).heap[k]? = w.heap[k]? from fun k hk => Below.heap_alloc w _ k (h.lt1 k hk))
  have BX := Aside0.mk (heap_alloc_new w (.cells #[.int .i64 5, .slice A1 l1.length c1, .slice A2 l2.length c2, .int .u8 x3, .int .u32 x4] 133))
  have HU := Aside0.mk (And.intro u0 u1)
  clear h hs r1 r2 m1 m2 n1 n2 u0 u1 hQ
  go_enter Try.func45, Try.ntmps45
  go_wp2_with fail
  have q0 : (w.alloc (.cells #[.int .i64 5, .slice A1 l1.length c1, .slice A2 l2.length c2, .int .u8 x3, .int .u32 x4] 133)).cell? ⟨w.heap.size, 0, none⟩ = some (.int .i64 5) := (blk_cell BX.out 0).trans rfl
  have q1 : (w.alloc (.cells #[.int .i64 5, .slice A1 l1.length c1, .slice A2 l2.length c2, .int .u8 x3, .int .u32 x4] 133)).cell? ⟨w.heap.size, 1, none⟩ = some (.slice A1 l1.length c1) := (blk_cell BX.out 1).trans rfl
  have q2 : (w.alloc (.cells #[.int .i64 5, .slice A1 l1.length c1, .slice A2 l2.length c2, .int .u8 x3, .int .u32 x4] 133)).cell? ⟨w.heap.size, 2, none⟩ = some (.slice A2 l2.length c2) := (blk_cell BX.out 2).trans rfl
  have q3 : (w.alloc (.cells #[.int .i64 5, .slice A1 l1.length c1, .slice A2 l2.length c2, .int .u8 x3, .int .u32 x4] 133)).cell? ⟨w.heap.size, 3, none⟩ = some (.int .u8 x3) := (blk_cell BX.out 3).trans rfl
  have q4 : (w.alloc (.cells #[.int .i64 5, .slice A1 l1.length c1, .slice A2 l2.length c2, .int .u8 x3, .int .u32 x4] 133)).cell? ⟨w.heap.size, 4, none⟩ = some (.int .u32 x4) := (blk_cell BX.out 4).trans rfl
  go_wp2_with fail
  have QD := Aside0.mk q1
  have HPD := Aside0.mk ((HP.out.below (below_drew (Below.refl _ _))).mono (Q1 := Q) (Q2 := Q) (fun k hk => .inl hk) (fun k hk => .inl hk))
  have HBD := Aside0.mk (HB.out.trans ((below_drew (Below.refl _ (w.alloc (.cells #[.int .i64 5, .slice A1 l1.length c1, .slice A2 l2.length c2, .int .u8 x3, .int .u32 x4] 133)))).mono HP.out.base_le))
  clear q0 q1 q2 q3 q4 HP HB
  refine wp_region_held_drew (S := fun W => W.cell? ⟨w.heap.size, 1, none⟩ = some (.slice A1 l1.length c1)) (by kernel_rfl) (QD.out) (fun hHeld => ?_)
  refine wpAnyH_take (i := 0) (oi := ?oi0) (v := ?v0) ?hi0 ?hs0 ?hf0 ?hr0 ?hq0 (Or.inl ⟨?hw0, ?hy0⟩) (by assumption) ?rest0
  case hi0 => simp only [List.getElem?_toArray, List.getElem?_cons_succ, List.getElem?_cons_zero]; rfl
  case hs0 => kernel_rfl
  case hf0 => kernel_rfl
  case hr0 => kernel_rfl
  case hq0 => exact fun _ _ _ h => h
  case hw0 => rfl
  case hy0 =>
    intro w hSw
    (try dsimp only at hSw)
    go_simp
    try with_reducible rfl
  (try simp only [Act.put, List.setIfInBounds_toArray, List.set_cons_zero, List.set_cons_succ])
  refine wpAnyH_take (i := 1) (oi := ?oi1) (v := ?v1) ?hi1 ?hs1 ?hf1 ?hr1 ?hq1 (Or.inl ⟨?hw1, ?hy1⟩) (by assumption) ?rest1
  case hi1 => simp only [List.getElem?_toArray, List.getElem?_cons_succ, List.getElem?_cons_zero]; rfl
  case hs1 => kernel_rfl
  case hf1 => kernel_rfl
  case hr1 => kernel_rfl
  case hq1 => exact fun _ _ _ h => h
  case hw1 => rfl
  case hy1 =>
    intro w hSw
    (try dsimp only at hSw)
    go_simp
    try with_reducible rfl
  (try simp only [Act.put, List.setIfInBounds_toArray, List.set_cons_zero, List.set_cons_succ])
  refine wpAnyH_take (i := 2) (oi := ?oi2) (v := ?v2) ?hi2 ?hs2 ?hf2 ?hr2 ?hq2 (Or.inl ⟨?hw2, ?hy2⟩) (by assumption) ?rest2
  case hi2 => simp only [List.getElem?_toArray, List.getElem?_cons_succ, List.getElem?_cons_zero]; rfl
  case hs2 => kernel_rfl
  case hf2 => kernel_rfl
  case hr2 => kernel_rfl
  case hq2 => exact fun _ _ _ h => h
  case hw2 => rfl
  case hy2 =>
    intro w hSw
    (try dsimp only at hSw)
    go_simp
    try with_reducible rfl
  (try simp only [Act.put, List.setIfInBounds_toArray, List.set_cons_zero, List.set_cons_succ])
  refine wpAnyH_take (i := 4) (oi := ?oi4) (v := ?v4) ?hi4 ?hs4 ?hf4 ?hr4 ?hq4 (Or.inl ⟨?hw4, ?hy4⟩) (by assumption) ?rest4
  case hi4 => simp only [List.getElem?_toArray, List.getElem?_cons_succ, List.getElem?_cons_zero]; rfl
  case hs4 => kernel_rfl
  case hf4 => kernel_rfl
  case hr4 => kernel_rfl
  case hq4 => exact fun _ _ _ h => h
  case hw4 => rfl
  case hy4 =>
    intro w hSw
    (try dsimp only at hSw)
    go_simp
    try with_reducible rfl
  (try simp only [Act.put, List.setIfInBounds_toArray, List.set_cons_zero, List.set_cons_succ])
  refine wpAnyH_take (i := 5) (oi := ?oi5) (v := ?v5) ?hi5 ?hs5 ?hf5 ?hr5 ?hq5 (Or.inl ⟨?hw5, ?hy5⟩) (by assumption) ?rest5
  case hi5 => simp only [List.getElem?_toArray, List.getElem?_cons_succ, List.getElem?_cons_zero]; rfl
  case hs5 => kernel_rfl
  case hf5 => kernel_rfl
  case hr5 => kernel_rfl
  case hq5 => exact fun _ _ _ h => h
  case hw5 => rfl
  case hy5 =>
    intro w hSw
    (try dsimp only at hSw)
    go_simp
    try with_reducible rfl
  (try simp only [Act.put, List.setIfInBounds_toArray, List.set_cons_zero, List.set_cons_succ])
  refine wpAnyH_take (i := 6) (oi := ?oi6) (v := ?v6) ?hi6 ?hs6 ?hf6 ?hr6 ?hq6 (Or.inl ⟨?hw6, ?hy6⟩) (by assumption) ?rest6
  case hi6 => simp only [List.getElem?_toArray, List.getElem?_cons_succ, List.getElem?_cons_zero]; rfl
  case hs6 => kernel_rfl
  case hf6 => kernel_rfl
  case hr6 => kernel_rfl
  case hq6 => exact fun _ _ _ h => h
  case hw6 => rfl
  case hy6 =>
    intro w hSw
    (try dsimp only at hSw)
    go_simp
    try with_reducible rfl
  (try simp only [Act.put, List.setIfInBounds_toArray, List.set_cons_zero, List.set_cons_succ])
  refine wpAnyH_ready (rs := [3]) (by kernel_rfl) (by simp) ?_
  refine AllReadyH.cons (o := ?o3) ?ho3 (fun K hK => ?_) AllReadyH.nil
  case ho3 => simp only [List.getElem?_toArray, List.getElem?_cons_succ, List.getElem?_cons_zero]; rfl
  go_simp
  refine (p_take HPD.out HS.out A1 c1 l1 (R1.out.below HBD.out) L1.out).mono ?_
  rintro e w1 ⟨rfl, hp, hb, hk⟩
  have HP1 := Aside0.mk (hp.mono (Q1 := Q) (Q2 := Q) (fun k hk => hk) (fun k hk => .inl hk))
  have KP1 := Aside0.mk (fun k hP => (hk k (QP.out k hP)).trans (KP.out k hP))
  have HB1 := Aside0.mk (HBD.out.trans hb)
  have BX1 := Aside0.mk ((hk _ QQ.out).trans BX.out)
  have Q1 := Aside0.mk (show w1.cell? ⟨w.heap.size, 1, none⟩ = some (.slice A1 l1.length c1) from (blk_cell BX1.out 1).trans rfl)
  clear hp hb hk
  refine hK.out _ _ (Q1.out) (fun hHeld2 => ?_)
  clear hK K hHeld
  have hHeld := hHeld2
  clear hHeld2
  (try simp only [Act.put, List.setIfInBounds_toArray, List.set_cons_zero, List.set_cons_succ])
  refine wpAnyH_ready (rs := [7]) (by kernel_rfl) (by simp) ?_
  refine AllReadyH.cons (o := ?o7) ?ho7 (fun K hK => ?_) AllReadyH.nil
  case ho7 => simp only [List.getElem?_toArray, List.getElem?_cons_succ, List.getElem?_cons_zero]; rfl
  go_simp
  refine (p_rtake HP1.out HS.out A1 c1 l1 (R1.out.below HB1.out) L1.out).mono ?_
  rintro e w2 ⟨rfl, hp, hb, hk⟩
  have HP2 := Aside0.mk (hp.mono (Q1 := Q) (Q2 := Q) (fun k hk => .inl hk) (fun k hk => hk))
  have KP2 := Aside0.mk (fun k hP => (hk k (QP.out k hP)).trans (KP1.out k hP))
  have HB2 := Aside0.mk (HB1.out.trans hb)
  have Q2 := Aside0.mk (show w2.cell? ⟨w.heap.size, 1, none⟩ = some (.slice A1 l1.length c1) from (blk_cell ((hk _ QQ.out).trans BX1.out) 1).trans rfl)
  clear hp hb hk
  refine hK.out _ _ (Q2.out) (fun hHeld2 => ?_)
  clear hK K hHeld
  have hHeld := hHeld2
  clear hHeld2
  (try simp only [Act.put, List.setIfInBounds_toArray, List.set_cons_zero, List.set_cons_succ])
  refine wpAnyH_take (i := 8) (oi := ?oi8) (v := ?v8) ?hi8 ?hs8 ?hf8 ?hr8 ?hq8 (Or.inl ⟨?hw8, ?hy8⟩) (by assumption) ?rest8
  case hi8 => simp only [List.getElem?_toArray, List.getElem?_cons_succ, List.getElem?_cons_zero]; rfl
  case hs8 => kernel_rfl
  case hf8 => kernel_rfl
  case hr8 => kernel_rfl
  case hq8 => exact fun _ _ _ h => h
  case hw8 => rfl
  case hy8 =>
    intro w hSw
    (try dsimp only at hSw)
    go_simp
    try with_reducible rfl
  (try simp only [Act.put, List.setIfInBounds_toArray, List.set_cons_zero, List.set_cons_succ])
  refine wpAnyH_take (i := 9) (oi := ?oi9) (v := ?v9) ?hi9 ?hs9 ?hf9 ?hr9 ?hq9 (Or.inl ⟨?hw9, ?hy9⟩) (by assumption) ?rest9
  case hi9 => simp only [List.getElem?_toArray, List.getElem?_cons_succ, List.getElem?_cons_zero]; rfl
  case hs9 => kernel_rfl
  case hf9 => kernel_rfl
  case hr9 => kernel_rfl
  case hq9 => exact fun _ _ _ h => h
  case hw9 => rfl
  case hy9 =>
    intro w hSw
    (try dsimp only at hSw)
    go_simp
    try with_reducible rfl
  (try simp only [Act.put, List.setIfInBounds_toArray, List.set_cons_zero, List.set_cons_succ])
  refine wpAnyH_done (by kernel_rfl) ?_ _
  go_wp2
  go_ret
  exact ⟨by simp, HP2.out.mono QP.out QP.out, HB2.out, KP2.out⟩
end
end Go.Proofs.Ytkpjdkmggbelfaa.Operand
