/- A queue and the reference's, at once. -/
import Derived.Test.YtkpjdkmggbelfaaHostAwake
import Derived.Test.YtkpjdkmggbelfaaHostFew
namespace Go.Proofs.Ytkpjdkmggbelfaa.Host
open Go.RowKit Go.Proofs.YtkpjdkmggbelfaaW.PrintWords Go.Proofs.YtkpjdkmggbelfaaW.PrintLast Go.Proofs.YtkpjdkmggbelfaaW.PrintMore Go.Proofs.Ytkpjdkmggbelfaa.Mem Go.Proofs.Ytkpjdkmggbelfaa.PHostPlays
set_option linter.unusedVariables false
set_option linter.unusedSimpArgs false
theorem heap109 : Kd.Heap k109 := Kd.heap_iso _ (Kd.heap_pair Kd.heap_bool (Kd.heap_slice _ (Kd.heap_int _)))
theorem heap156 : Kd.Heap k156 := Kd.heap_iso _ (Kd.heap_pair Kd.heap_string (Kd.heap_slice _ (Kd.heap_int _)))
/-- The queue at g1, the reference's at g2; P: blocks that both leave alone. -/
def PairQ (base : Nat) (W : World) (g1 g2 : Nat) (an : List S109) (gs : List Bool) (cs : List S156) (AN : List S112) (GS : List Bool) (CS : List S164) (na ng : Nat) (P : Nat → Prop) : Prop :=
  ∃ t1 va vg vc t2 wa wg wc, Qs base W g1 t1 an gs cs va vg vc ∧ Rs base W g2 t2 AN GS CS wa wg wc (na : Int) (ng : Int) ∧ (∀ k, t1 k ≠ 0 → t2 k = 0) ∧ (∀ k, P k → t1 k = 0 ∧ t2 k = 0 ∧ k < W.heap.size)
section
variable {base : Nat} {w w' : World} {g1 g2 : Nat} {an an' : List S109} {gs gs' : List Bool} {cs cs' : List S156} {AN AN' : List S112} {GS GS' : List Bool} {CS CS' : List S164} {na ng na' ng' : Nat} {P Q : Nat → Prop}
theorem PairQ.mono (h : PairQ base w g1 g2 an gs cs AN GS CS na ng P) (h1 : ∀ k, Q k → P k) : PairQ base w g1 g2 an gs cs AN GS CS na ng Q := by
  obtain ⟨t1, va, vg, vc, t2, wa, wg, wc, a, b, c, d⟩ := h
  exact ⟨t1, va, vg, vc, t2, wa, wg, wc, a, b, c, fun k hk => d k (h1 k hk)⟩
theorem PairQ.base_le (h : PairQ base w g1 g2 an gs cs AN GS CS na ng P) : base ≤ w.heap.size := by
  obtain ⟨t1, va, vg, vc, t2, wa, wg, wc, a, b, c, d⟩ := h
  exact a.low
theorem PairQ.below (h : PairQ base w g1 g2 an gs cs AN GS CS na ng P) (hb : Below w.heap.size w w') : PairQ base w' g1 g2 an gs cs AN GS CS na ng (fun k => P k ∨ w.heap.size ≤ k ∧ k < w'.heap.size) := by
  obtain ⟨t1, va, vg, vc, t2, wa, wg, wc, a, b, c, d⟩ := h
  have hs := hb.size
  refine ⟨t1, va, vg, vc, t2, wa, wg, wc, a.below hb, b.below hb, c, fun k hk => ?_⟩
  rcases hk with hk | hk
  · exact ⟨(d k hk).1, (d k hk).2.1, by have := (d k hk).2.2; omega⟩
  · exact ⟨Classical.byContradiction fun hn => by have := (a.tagged k hn).2; omega, Classical.byContradiction fun hn => by have := (b.tagged k hn).2; omega, hk.2⟩
theorem PairQ.own_after {t1 t2 : Nat → Nat} {va vg vc wa wg wc : Value} (a : Qs base w g1 t1 an gs cs va vg vc) (b : Rs base w g2 t2 AN GS CS wa wg wc (na : Int) (ng : Int)) (c : ∀ k, t1 k ≠ 0 → t2 k = 0) (d : ∀ k, P k → t1 k = 0 ∧ t2 k = 0 ∧ k < w.heap.size)
    (hr : QsAfter base w g1 t1 an' gs' cs' w') : PairQ base w' g1 g2 an' gs' cs' AN GS CS na ng P ∧ Below base w w' ∧ ∀ k, P k → w'.heap[k]? = w.heap[k]? := by
  obtain ⟨t1', va', vg', vc', a', kp, hb, ht, h3⟩ := hr
  have new : ∀ k, t1' k ≠ 0 → t1 k = 0 → w.heap.size ≤ k := fun k hn h0 => (ht k hn).elim (fun h => absurd h0 h) id
  refine ⟨⟨t1', va', vg', vc', t2, wa, wg, wc, a', b.move kp.1 (fun k hk => hb.block k hk) fun k hk => kp.2 k (b.tagged k hk).2 fun hn => hk (c k hn), fun k hk => ?_, fun k hk => ⟨?_, (d k hk).2.1, by have := (d k hk).2.2; have := kp.1; omega⟩⟩, hb, fun k hk => kp.2 k (d k hk).2.2 fun hn => hn (d k hk).1⟩
  · by_cases h1 : t1 k = 0
    · exact Classical.byContradiction fun hn => by have := (b.tagged k hn).2; have := new k hk h1; omega
    · exact c k h1
  · exact Classical.byContradiction fun hn => by have := new k hn (d k hk).1; have := (d k hk).2.2; omega
theorem PairQ.ref_after {t1 t2 : Nat → Nat} {va vg vc wa wg wc : Value} (a : Qs base w g1 t1 an gs cs va vg vc) (b : Rs base w g2 t2 AN GS CS wa wg wc (na : Int) (ng : Int)) (c : ∀ k, t1 k ≠ 0 → t2 k = 0) (d : ∀ k, P k → t1 k = 0 ∧ t2 k = 0 ∧ k < w.heap.size)
    (hr : RsAfter base w g2 t2 AN' GS' CS' (na' : Int) (ng' : Int) w') : PairQ base w' g1 g2 an gs cs AN' GS' CS' na' ng' P ∧ Below base w w' ∧ ∀ k, P k → w'.heap[k]? = w.heap[k]? := by
  obtain ⟨t2', va', vg', vc', b', kp, hb, ht, h3⟩ := hr
  have new : ∀ k, t2' k ≠ 0 → t2 k = 0 → w.heap.size ≤ k := fun k hn h0 => (ht k hn).elim (fun h => absurd h0 h) id
  refine ⟨⟨t1, va, vg, vc, t2', va', vg', vc', a.move kp.1 (fun k hk => hb.block k hk) (fun k hk => kp.2 k (a.tagged k hk).2 fun hn => hn (c k hk)), b', fun k hk => ?_, fun k hk => ⟨(d k hk).1, ?_, by have := (d k hk).2.2; have := kp.1; omega⟩⟩, hb, fun k hk => kp.2 k (d k hk).2.2 fun hn => hn (d k hk).2.1⟩
  · exact Classical.byContradiction fun hn => by have := new k hn (c k hk); have := (a.tagged k hk).2; omega
  · exact Classical.byContradiction fun hn => by have := new k hn (d k hk).2.1; have := (d k hk).2.2; omega
def PDid (base : Nat) (w : World) (g1 g2 : Nat) (an : List S109) (gs : List Bool) (cs : List S156) (AN : List S112) (GS : List Bool) (CS : List S164) (na ng : Nat) (P : Nat → Prop) (r : Value) (e : Ending) (w' : World) : Prop :=
  e = .returned r ∧ PairQ base w' g1 g2 an gs cs AN GS CS na ng P ∧ Below base w w' ∧ ∀ k, P k → w'.heap[k]? = w.heap[k]?
theorem PairQ.own {fn : Nat} {args : Array Value} {r : Value} (h : PairQ base w g1 g2 an gs cs AN GS CS na ng P) (hc : ∀ t va vg vc, Qs base w g1 t an gs cs va vg vc → Calls Try.prog fn args w fun e w' => e = .returned r ∧ QsAfter base w g1 t an' gs' cs' w') :
    Calls Try.prog fn args w (PDid base w g1 g2 an' gs' cs' AN GS CS na ng P r) := by
  obtain ⟨t1, va, vg, vc, t2, wa, wg, wc, a, b, c, d⟩ := h
  exact (hc _ _ _ _ a).mono fun e1 w' ⟨he, hr⟩ => ⟨he, PairQ.own_after a b c d hr⟩
theorem PairQ.ref {fn : Nat} {args : Array Value} {r : Value} (h : PairQ base w g1 g2 an gs cs AN GS CS na ng P) (hc : ∀ t va vg vc, Rs base w g2 t AN GS CS va vg vc (na : Int) (ng : Int) → Calls Try.prog fn args w fun e w' => e = .returned r ∧ RsAfter base w g2 t AN' GS' CS' (na' : Int) (ng' : Int) w') :
    Calls Try.prog fn args w (PDid base w g1 g2 an gs cs AN' GS' CS' na' ng' P r) := by
  obtain ⟨t1, va, vg, vc, t2, wa, wg, wc, a, b, c, d⟩ := h
  exact (hc _ _ _ _ b).mono fun e1 w' ⟨he, hr⟩ => ⟨he, PairQ.ref_after a b c d hr⟩
theorem PairQ.old (h : PairQ base w g1 g2 an gs cs AN GS CS na ng P) (k : Nat) (hk : k < base) : ∀ t va vg vc, Qs base w g1 t an gs cs va vg vc → k < w.heap.size ∧ t k = 0 := fun t va vg vc a => ⟨Nat.lt_of_lt_of_le hk a.low, Classical.byContradiction fun hn => by have := (a.tagged k hn).1; omega⟩
theorem p_like (h : PairQ base w g1 g2 an gs cs AN GS CS na ng P) (ag : Agree an gs cs AN GS CS na ng) (bd : Bound an gs cs) : Calls Try.prog 30 #[.pointer (some ⟨g1, 0, none⟩), .pointer (some ⟨g2, 0, none⟩)] w fun e w' => e = .returned (.bool true) ∧ Below w.heap.size w w' := by
  obtain ⟨t1, va, vg, vc, t2, wa, wg, wc, a, b, c, d⟩ := h
  obtain ⟨A0, c0, A1, c1, A2, c2, hv⟩ := b.view
  exact like_calls base w g1 g2 t1 an gs cs va vg vc a A0 A1 A2 c0 c1 c2 AN GS CS na ng hv ag bd
theorem p_clear (h : PairQ base w g1 g2 an gs cs AN GS CS na ng P) : Calls Try.prog 29 #[.pointer (some ⟨g1, 0, none⟩)] w (PDid base w g1 g2 an gs [] AN GS CS na ng P (.tuple #[])) :=
  h.own fun t va vg vc a => Clear_calls base w g1 t an gs cs va vg vc a
theorem qs_fr {t : Nat → Nat} {va vg vc : Value} {α : Type} {d : Kd α} {A : Option Addr} {n : Nat} {l : List α} (a : Qs base w g1 t an gs cs va vg vc) (hl : Kd.F d w (fun k => k < base) A n l) : Kd.F d w (fun k => k < w.heap.size ∧ t k = 0) A n l :=
  Kd.F_mono hl fun k hk => ⟨Nat.lt_of_lt_of_le hk a.low, Classical.byContradiction fun hn => by have := (a.tagged k hn).1; omega⟩
theorem p_feed (h : PairQ base w g1 g2 an gs cs AN GS CS na ng P) (A : Option Addr) (c : Nat) (l : List S109) (hn : an.length + l.length ≤ 4398046510976) (hl : l.length ≤ 4398046510976) (ha : Kd.F k109 w (fun k => k < base) A l.length l) (hx : ∀ x ∈ l, x.f1.length ≤ 17592186043904)
    (A2 : Option Addr) (c2 : Nat) (l2 : List Bool) (hng : gs.length + l2.length ≤ 140737488351232) (hl2 : l2.length ≤ 140737488351232) (ha2 : Kd.F Kd.bool w (fun k => k < base) A2 l2.length l2) :
    Calls Try.prog 24 #[.pointer (some ⟨g1, 0, none⟩), .agg #[.slice A l.length c, .slice A2 l2.length c2]] w (PDid base w g1 g2 (an ++ l) (gs ++ l2) cs AN GS CS na ng P (.tuple #[])) :=
  h.own fun t va vg vc a => Feed_calls base w g1 t an gs cs va vg vc a A c l hn hl (qs_fr a ha) hx A2 c2 l2 hng hl2 (qs_fr a ha2)
end
end Go.Proofs.Ytkpjdkmggbelfaa.Host
