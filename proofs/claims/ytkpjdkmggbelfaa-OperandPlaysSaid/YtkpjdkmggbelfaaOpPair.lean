/- Two stacks at once: operand's and the reference's. -/
import Derived.Test.YtkpjdkmggbelfaaOpRefC
import Derived.Test.YtkpjdkmggbelfaaOpBack
namespace Go.Proofs.Ytkpjdkmggbelfaa.Operand
open Go.RowKit Go.Proofs.YtkpjdkmggbelfaaW.PrintWords Go.Proofs.YtkpjdkmggbelfaaW.PrintLast Go.Proofs.YtkpjdkmggbelfaaW.PrintMore Go.Proofs.Ytkpjdkmggbelfaa.Mem
set_option linter.unusedVariables false
set_option linter.unusedSimpArgs false
/-- Operand's stack at g1, the reference's at g2; P1, P2: blocks that the one, the other leaves alone. -/
def Pair (base : Nat) (W : World) (g1 g2 : Nat) (fs1 fs2 : List Fr) (P1 P2 : Nat → Prop) : Prop :=
  ∃ t1 v1 k1 t2 v2 k2, Stk base W g1 t1 fs1 v1 k1 ∧ RStk base W g2 t2 fs2 v2 k2 ∧ (∀ k, t1 k ≠ 0 → t2 k = 0) ∧ (∀ k, P1 k → t1 k = 0 ∧ k < W.heap.size) ∧ (∀ k, P2 k → t2 k = 0 ∧ k < W.heap.size)
def OwnDid (base : Nat) (w : World) (g1 g2 : Nat) (P1 P2 : Nat → Prop) (r : Value) (fs1 fs2 : List Fr) (e : Ending) (w' : World) : Prop :=
  e = .returned r ∧ Pair base w' g1 g2 fs1 fs2 P1 (fun k => P2 k ∨ w.heap.size ≤ k ∧ k < w'.heap.size) ∧ Below base w w' ∧ ∀ k, P1 k → w'.heap[k]? = w.heap[k]?
def RefDid (base : Nat) (w : World) (g1 g2 : Nat) (P1 P2 : Nat → Prop) (r : Value) (fs1 fs2 : List Fr) (e : Ending) (w' : World) : Prop :=
  e = .returned r ∧ Pair base w' g1 g2 fs1 fs2 (fun k => P1 k ∨ w.heap.size ≤ k ∧ k < w'.heap.size) P2 ∧ Below base w w' ∧ ∀ k, P2 k → w'.heap[k]? = w.heap[k]?
section
variable {base : Nat} {w w' : World} {g1 g2 : Nat} {fs1 fs2 fs1' fs2' : List Fr} {P1 P2 Q1 Q2 : Nat → Prop}
theorem Pair.mono (h : Pair base w g1 g2 fs1 fs2 P1 P2) (h1 : ∀ k, Q1 k → P1 k) (h2 : ∀ k, Q2 k → P2 k) : Pair base w g1 g2 fs1 fs2 Q1 Q2 := by
  obtain ⟨t1, v1, k1, t2, v2, k2, a, b, c, d, e⟩ := h
  exact ⟨t1, v1, k1, t2, v2, k2, a, b, c, fun k hk => d k (h1 k hk), fun k hk => e k (h2 k hk)⟩
/-- Nothing old is turned: all that is new is left alone. -/
theorem Pair.below (h : Pair base w g1 g2 fs1 fs2 P1 P2) (hb : Below w.heap.size w w') : Pair base w' g1 g2 fs1 fs2 (fun k => P1 k ∨ w.heap.size ≤ k ∧ k < w'.heap.size) (fun k => P2 k ∨ w.heap.size ≤ k ∧ k < w'.heap.size) := by
  obtain ⟨t1, v1, k1, t2, v2, k2, a, b, c, d, e⟩ := h
  have hs := hb.size
  refine ⟨t1, v1, k1, t2, v2, k2, a.below hb, b.below hb, c, fun k hk => ?_, fun k hk => ?_⟩
  · rcases hk with hk | hk
    · exact ⟨(d k hk).1, by have := (d k hk).2; omega⟩
    · exact ⟨Classical.byContradiction fun hn => by have := (a.tagged k hn).2; omega, hk.2⟩
  · rcases hk with hk | hk
    · exact ⟨(e k hk).1, by have := (e k hk).2; omega⟩
    · exact ⟨Classical.byContradiction fun hn => by have := (b.tagged k hn).2; omega, hk.2⟩
theorem Pair.base_le (h : Pair base w g1 g2 fs1 fs2 P1 P2) : base ≤ w.heap.size := by
  obtain ⟨t1, v1, k1, t2, v2, k2, a, b, c, d, e⟩ := h
  exact a.base
/-- A call of operand's. -/
theorem Pair.own {fn : Nat} {args : Array Value} {r : Value} (h : Pair base w g1 g2 fs1 fs2 P1 P2) (hc : ∀ t v k, Stk base w g1 t fs1 v k → Calls Try.prog fn args w fun e w' => e = .returned r ∧ After base w g1 t fs1' w') : Calls Try.prog fn args w (OwnDid base w g1 g2 P1 P2 r fs1' fs2) := by
  obtain ⟨t1, v1, k1, t2, v2, k2, a, b, c, d, e⟩ := h
  refine (hc _ _ _ a).mono fun e1 w' ⟨he, v', t1', k1', a', kp, hb, ht, h3⟩ => ⟨he, ⟨t1', v', k1', t2, v2, k2, a', ?_, ?_, ?_, ?_⟩, hb, ?_⟩
  · exact b.move kp.1 (fun k hk => hb.block k hk) fun k hk => kp.2 k (b.tagged k hk).2 fun hn => hk (c k hn)
  · intro k hk
    rcases ht k hk with h | h
    · exact c k h
    · exact Classical.byContradiction fun hn => by have := (b.tagged k hn).2; omega
  · intro k hk
    refine ⟨Classical.byContradiction fun hn => ?_, by have := (d k hk).2; have := kp.1; omega⟩
    rcases ht k hn with h | h
    · exact h (d k hk).1
    · have := (d k hk).2; omega
  · intro k hk
    rcases hk with hk | hk
    · exact ⟨(e k hk).1, by have := (e k hk).2; have := kp.1; omega⟩
    · exact ⟨Classical.byContradiction fun hn => by have := (b.tagged k hn).2; omega, hk.2⟩
  · exact fun k hk => kp.2 k (d k hk).2 fun hn => hn (d k hk).1
/-- A call of the reference's. -/
theorem Pair.ref {fn : Nat} {args : Array Value} {r : Value} (h : Pair base w g1 g2 fs1 fs2 P1 P2) (hc : ∀ t v k, RStk base w g2 t fs2 v k → Calls Try.prog fn args w fun e w' => e = .returned r ∧ RAfter base w g2 t fs2' w') : Calls Try.prog fn args w (RefDid base w g1 g2 P1 P2 r fs1 fs2') := by
  obtain ⟨t1, v1, k1, t2, v2, k2, a, b, c, d, e⟩ := h
  refine (hc _ _ _ b).mono fun e1 w' ⟨he, v', t2', k2', b', kp, hb, ht, h3⟩ => ⟨he, ⟨t1, v1, k1, t2', v', k2', ?_, b', ?_, ?_, ?_⟩, hb, ?_⟩
  · exact a.move kp.1 fun k hk => kp.2 k (a.tagged k hk).2 fun hn => hn (c k hk)
  · intro k hk
    refine Classical.byContradiction fun hn => ?_
    rcases ht k hn with h | h
    · exact h (c k hk)
    · have := (a.tagged k hk).2; omega
  · intro k hk
    rcases hk with hk | hk
    · exact ⟨(d k hk).1, by have := (d k hk).2; have := kp.1; omega⟩
    · exact ⟨Classical.byContradiction fun hn => by have := (a.tagged k hn).2; omega, hk.2⟩
  · intro k hk
    refine ⟨Classical.byContradiction fun hn => ?_, by have := (e k hk).2; have := kp.1; omega⟩
    rcases ht k hn with h | h
    · exact h (e k hk).1
    · have := (e k hk).2; omega
  · exact fun k hk => kp.2 k (e k hk).2 fun hn => hn (e k hk).1
theorem Came.rd {A : Option Addr} {c : Nat} {l : List Int} {tag : Nat → Nat} (h : Came base w A l) (hl : l.length ≤ c) : Rd base w tag A c l := ⟨hl, Kd.F_mono h fun k hk => .inl hk⟩
variable (h : Pair base w g1 g2 fs1 fs2 P1 P2)
include h
theorem p_open (hs : Small 1000000 fs1) (A0 : Option Addr) (c0 : Nat) (l : List Int) (h0 : Came base w A0 l) (hl0 : l.length ≤ 1000000) (A1 : Option Addr) (c1 : Nat) (e : List Int) (h1 : Came base w A1 e) (hl1 : e.length ≤ 1000000) :
    Calls Try.prog 37 #[.pointer (some ⟨g1, 0, none⟩), .slice A0 l.length c0, .slice A1 e.length c1] w (OwnDid base w g1 g2 P1 P2 (.tuple #[]) (openM fs1 l e) fs2) :=
  h.own fun t v k a => Open_calls base w g1 t fs1 v k a hs.1 A0 c0 l h0.c hl0 A1 c1 e h1.c hl1
theorem p_ropen (hs : Small 1000000 fs2) (A0 : Option Addr) (c0 : Nat) (l : List Int) (h0 : Came base w A0 l) (hl0 : l.length ≤ c0) (A1 : Option Addr) (c1 : Nat) (e : List Int) (h1 : Came base w A1 e) (hl1 : e.length ≤ c1) :
    Calls Try.prog 75 #[.pointer (some ⟨g2, 0, none⟩), .slice A0 l.length c0, .slice A1 e.length c1] w (RefDid base w g1 g2 P1 P2 (.tuple #[]) fs1 (openM fs2 l e)) :=
  h.ref fun t v k a => ROpen_calls base w g2 t fs2 v k a hs.1 A0 c0 l (h0.rd hl0) A1 c1 e (h1.rd hl1)
theorem p_push (hs : Small 1000000 fs1) (A0 : Option Addr) (c0 : Nat) (l : List Int) (h0 : ku.C w A0 l.length l) (hl0 : l.length ≤ 1000000) :
    Calls Try.prog 38 #[.pointer (some ⟨g1, 0, none⟩), .slice A0 l.length c0] w (OwnDid base w g1 g2 P1 P2 (.tuple #[]) (pushM fs1 l) fs2) := h.own fun t v k a => by
  rcases parted fs1 with rfl | ⟨gs, f, rfl⟩
  · rw [pushM_nil]
    exact Push_none base w g1 t v k a a.base A0 c0 l
  · rw [pushM_last]
    exact Push_some base w g1 t gs f v k a (by have := hs.1; simp at this; omega) (small_of_last hs).1 A0 c0 l h0 hl0
theorem p_rpush (hs : Small 1000000 fs2) (A0 : Option Addr) (c0 : Nat) (l : List Int) (h0 : ku.C w A0 l.length l) (hl0 : l.length ≤ 1000000) :
    Calls Try.prog 77 #[.pointer (some ⟨g2, 0, none⟩), .slice A0 l.length c0] w (RefDid base w g1 g2 P1 P2 (.tuple #[]) fs1 (pushM fs2 l)) := h.ref fun t v k a => by
  rcases parted fs2 with rfl | ⟨gs, f, rfl⟩
  · rw [pushM_nil]
    exact RPush_none base w g2 t v k a _
  · rw [pushM_last]
    exact RPush_some base w g2 t gs f v k a (by have := hs.1; simp at this; omega) (small_of_last hs).1 A0 c0 l h0 hl0
theorem p_kill (hs : Small 1000000 fs1) : Calls Try.prog 42 #[.pointer (some ⟨g1, 0, none⟩)] w (OwnDid base w g1 g2 P1 P2 (.tuple #[]) (killM fs1) fs2) := h.own fun t v k a => by
  rcases parted fs1 with rfl | ⟨gs, f, rfl⟩
  · exact Kill_none base w g1 t v k a a.base
  · rw [killM_last]
    exact Kill_some base w g1 t gs f v k a (by have := hs.1; simp at this; omega)
theorem p_rkill (hs : Small 1000000 fs2) : Calls Try.prog 80 #[.pointer (some ⟨g2, 0, none⟩)] w (RefDid base w g1 g2 P1 P2 (.tuple #[]) fs1 (killM fs2)) := h.ref fun t v k a => by
  rcases parted fs2 with rfl | ⟨gs, f, rfl⟩
  · exact RKill_none base w g2 t v k a
  · rw [killM_last]
    exact RKill_some base w g2 t gs f v k a (by have := hs.1; simp at this; omega)
theorem p_pop (hs : Small 1000000 fs1) (want : Int) : Calls Try.prog 41 #[.pointer (some ⟨g1, 0, none⟩), .int .u8 want] w (OwnDid base w g1 g2 P1 P2 (.tuple #[.int .u8 (popM fs1 want).1, .int .i64 (popM fs1 want).2.1]) (popM fs1 want).2.2 fs2) :=
  h.own fun t v k a => (Pop_calls base w g1 t fs1 v k a hs want).mono fun e w' ⟨he, ha⟩ => ⟨he, ha.any⟩
theorem p_rpop (hs : Small 1000000 fs2) (want : Int) : Calls Try.prog 78 #[.pointer (some ⟨g2, 0, none⟩), .int .u8 want] w (RefDid base w g1 g2 P1 P2 (.tuple #[.int .u8 (popM fs2 want).1, .int .i64 (popM fs2 want).2.1]) fs1 (popM fs2 want).2.2) :=
  h.ref fun t v k a => (RPop_calls base w g2 t fs2 v k a hs want).mono fun e w' ⟨he, ha⟩ => ⟨he, ha.any⟩
theorem p_take (hs : Small 1000000 fs1) (A : Option Addr) (c : Nat) (l : List Int) (h0 : Came base w A l) (hl : l.length ≤ 1000000) : Calls Try.prog 43 #[.pointer (some ⟨g1, 0, none⟩), .slice A l.length c] w (OwnDid base w g1 g2 P1 P2 (.int .i64 (takeM fs1 l.reverse).1) (takeM fs1 l.reverse).2 fs2) :=
  h.own fun t v k a => (Take_calls base w g1 t fs1 v k a hs A c l (Kd.F_mono h0 fun k hk => .inl hk) hl).mono fun e w' ⟨he, ha⟩ => ⟨he, ha.any⟩
theorem p_rtake (hs : Small 1000000 fs2) (A : Option Addr) (c : Nat) (l : List Int) (h0 : Came base w A l) (hl : l.length ≤ 1000000) : Calls Try.prog 79 #[.pointer (some ⟨g2, 0, none⟩), .slice A l.length c] w (RefDid base w g1 g2 P1 P2 (.int .i64 (takeM fs2 l.reverse).1) fs1 (takeM fs2 l.reverse).2) :=
  h.ref fun t v k a => (RTake_calls base w g2 t fs2 v k a hs A c l (Kd.F_mono h0 fun k hk => .inl hk) hl).mono fun e w' ⟨he, ha⟩ => ⟨he, ha.any⟩
/-- Both close. -/
def CloseDid (base : Nat) (w : World) (g1 g2 : Nat) (P1 P2 : Nat → Prop) (l : List Int) (er : Int) (fs1 fs2 : List Fr) (e : Ending) (w' : World) : Prop :=
  ∃ A c, e = .returned (.tuple #[.slice A l.length c, .int .i64 er]) ∧ Kd.F ku w' (fun k => w.heap.size ≤ k ∧ k < w'.heap.size) A l.length l ∧ Pair base w' g1 g2 fs1 fs2 P1 (fun k => P2 k ∨ w.heap.size ≤ k ∧ k < w'.heap.size) ∧ Below base w w' ∧ ∀ k, P1 k → w'.heap[k]? = w.heap[k]?
def RCloseDid (base : Nat) (w : World) (g1 g2 : Nat) (P1 P2 : Nat → Prop) (l : List Int) (er : Int) (fs1 fs2 : List Fr) (e : Ending) (w' : World) : Prop :=
  ∃ A c, e = .returned (.tuple #[.slice A l.length c, .int .i64 er]) ∧ ku.C w' A l.length l ∧ Pair base w' g1 g2 fs1 fs2 (fun k => P1 k ∨ w.heap.size ≤ k ∧ k < w'.heap.size) P2 ∧ Below base w w' ∧ ∀ k, P2 k → w'.heap[k]? = w.heap[k]?
theorem p_close (hs : Small 1000000 fs1) : Calls Try.prog 39 #[.pointer (some ⟨g1, 0, none⟩)] w (CloseDid base w g1 g2 P1 P2 (closeM fs1).1 (closeM fs1).2.1 (closeM fs1).2.2 fs2) := by
  obtain ⟨t1, v1, k1, t2, v2, k2, a, b, c, d, e⟩ := h
  refine (Close_calls base w g1 t1 fs1 v1 k1 a hs).mono fun e1 w' ⟨v, he, hl, hn, ha⟩ => ?_
  obtain ⟨A, cc, rfl⟩ := row_one hl
  obtain ⟨_, _, q2⟩ := Loose.F (h1 := fun _ => rfl) (ok := fun k => w.heap.size ≤ k ∧ k < w'.heap.size) hl (fun k hk => ⟨hn k hk, hl.lt k hk⟩)
  obtain ⟨v', t1', k1', a', kp, hb, ht, h3⟩ := ha
  refine ⟨A, cc, he, q2, ⟨t1', v', k1', t2, v2, k2, a', ?_, ?_, ?_, ?_⟩, hb, ?_⟩
  · exact b.move kp.1 (fun k hk => hb.block k hk) fun k hk => kp.2 k (b.tagged k hk).2 fun hn => hk (c k hn)
  · intro k hk
    rcases ht k hk with h | h
    · exact c k h
    · exact Classical.byContradiction fun hn => by have := (b.tagged k hn).2; omega
  · intro k hk
    refine ⟨Classical.byContradiction fun hn => ?_, by have := (d k hk).2; have := kp.1; omega⟩
    rcases ht k hn with h | h
    · exact h (d k hk).1
    · have := (d k hk).2; omega
  · intro k hk
    rcases hk with hk | hk
    · exact ⟨(e k hk).1, by have := (e k hk).2; have := kp.1; omega⟩
    · exact ⟨Classical.byContradiction fun hn => by have := (b.tagged k hn).2; omega, hk.2⟩
  · exact fun k hk => kp.2 k (d k hk).2 fun hn => hn (d k hk).1
theorem p_rclose (hs : Small 1000000 fs2) : Calls Try.prog 76 #[.pointer (some ⟨g2, 0, none⟩)] w (RCloseDid base w g1 g2 P1 P2 (closeM fs2).1 (closeM fs2).2.1 fs1 (closeM fs2).2.2) := by
  obtain ⟨t1, v1, k1, t2, v2, k2, a, b, c, d, e⟩ := h
  refine (RClose_calls base w g2 t2 fs2 v2 k2 b hs).mono fun e1 w' ⟨A, cc, he, hr, v', t2', k2', b', kp, hb, ht, h3⟩ => ?_
  refine ⟨A, cc, he, Kd.F_now (hr.r.after (g := g2) hb h3), ⟨t1, v1, k1, t2', v', k2', ?_, b', ?_, ?_, ?_⟩, hb, ?_⟩
  · exact a.move kp.1 fun k hk => kp.2 k (a.tagged k hk).2 fun hn => hn (c k hk)
  · intro k hk
    refine Classical.byContradiction fun hn => ?_
    rcases ht k hn with h | h
    · exact h (c k hk)
    · have := (a.tagged k hk).2; omega
  · intro k hk
    rcases hk with hk | hk
    · exact ⟨(d k hk).1, by have := (d k hk).2; have := kp.1; omega⟩
    · exact ⟨Classical.byContradiction fun hn => by have := (a.tagged k hn).2; omega, hk.2⟩
  · intro k hk
    refine ⟨Classical.byContradiction fun hn => ?_, by have := (e k hk).2; have := kp.1; omega⟩
    rcases ht k hn with h | h
    · exact h (e k hk).1
    · have := (e k hk).2; omega
  · exact fun k hk => kp.2 k (e k hk).2 fun hn => hn (e k hk).1
/-- What is only read. -/
def PRead (w : World) (l : List Int) (e : Ending) (w' : World) : Prop := ∃ A c, e = .returned (.slice A l.length c) ∧ ku.C w' A l.length l ∧ Below w.heap.size w w'
def PLabel (w : World) (r : List Int × Bool) (e : Ending) (w' : World) : Prop := ∃ A c, e = .returned (.tuple #[.slice A r.1.length c, .bool r.2]) ∧ ku.C w' A r.1.length r.1 ∧ Below w.heap.size w w'
theorem p_label (hs : Small 1000000 fs1) (n : Int) (hn0 : 0 ≤ n) (hn1 : n < 4294967296) : Calls Try.prog 48 #[.pointer (some ⟨g1, 0, none⟩), .int .u32 n] w (PLabel w (labelM fs1 n)) := by
  obtain ⟨t1, v1, k1, t2, v2, k2, a, b, c, d, e⟩ := h
  refine (Label_calls base w g1 t1 fs1 v1 k1 a hs n hn0 hn1).mono fun e1 w' ⟨v, he, hl, hn, hb⟩ => ?_
  obtain ⟨A, cc, rfl, _, hC⟩ := loose_cu hl
  exact ⟨A, cc, he, hC, hb⟩
theorem p_rlabel (hs : Small 1000000 fs2) (n : Int) (hn0 : 0 ≤ n) (hn1 : n < 4294967296) : Calls Try.prog 81 #[.pointer (some ⟨g2, 0, none⟩), .int .u32 n] w (PLabel w (labelM fs2 n)) := by
  obtain ⟨t1, v1, k1, t2, v2, k2, a, b, c, d, e⟩ := h
  exact (RLabel_calls base w g2 t2 fs2 v2 k2 b hs n hn0 hn1).mono fun e1 w' ⟨A, cc, he, hr, hb⟩ => ⟨A, cc, he, Kd.C_below (Kd.F_now hr.r) hb, hb⟩
theorem p_lying (hs : Small 1000000 fs1) : Calls Try.prog 40 #[.pointer (some ⟨g1, 0, none⟩)] w (PRead w (lyingM fs1)) := by
  obtain ⟨t1, v1, k1, t2, v2, k2, a, b, c, d, e⟩ := h
  exact Lying_has ⟨t1, v1, k1, a⟩ hs
theorem p_rlying (hs : Small 1000000 fs2) : Calls Try.prog 47 #[.pointer (some ⟨g2, 0, none⟩)] w (PRead w (lyingM fs2)) := by
  obtain ⟨t1, v1, k1, t2, v2, k2, a, b, c, d, e⟩ := h
  exact (RLying_calls base w g2 t2 fs2 v2 k2 b hs).mono fun e1 w' ⟨A, cc, he, hr, hb⟩ => ⟨A, cc, he, Kd.C_below (Kd.F_now hr.r) hb, hb⟩
theorem p_frames : Calls Try.prog 46 #[.pointer (some ⟨g1, 0, none⟩)] w fun e w' => e = .returned (.int .i64 (fs1.length : Int)) ∧ w = w' := by
  obtain ⟨t1, v1, k1, t2, v2, k2, a, b, c, d, e⟩ := h
  exact Frames_calls base w g1 t1 fs1 v1 k1 a
theorem p_box : ∃ A c, w.cell? ⟨g2, 0, none⟩ = some (.slice A fs2.length c) := by
  obtain ⟨t1, v1, k1, t2, v2, k2, a, b, c, d, e⟩ := h
  obtain ⟨A, cc, rfl⟩ := row_one b.row
  exact ⟨A, cc, b.box.c0⟩
end
end Go.Proofs.Ytkpjdkmggbelfaa.Operand
