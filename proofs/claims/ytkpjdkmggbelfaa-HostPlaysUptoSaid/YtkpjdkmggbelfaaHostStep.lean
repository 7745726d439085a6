/- A step's outcome, used by a queue and by the reference's. -/
import Derived.Test.YtkpjdkmggbelfaaHostPair
namespace Go.Proofs.Ytkpjdkmggbelfaa.Host
open Go.RowKit Go.Proofs.YtkpjdkmggbelfaaW.PrintWords Go.Proofs.YtkpjdkmggbelfaaW.PrintLast Go.Proofs.YtkpjdkmggbelfaaW.PrintMore Go.Proofs.Ytkpjdkmggbelfaa.Mem Go.Proofs.Ytkpjdkmggbelfaa.PHostPlays
set_option linter.unusedVariables false
set_option linter.unusedSimpArgs false
/-- The calls, turned, lie in a row that both leave alone. -/
def CalOk (base : Nat) (W : World) (A : Option Addr) (c : Nat) (l : List S156) (P : Nat → Prop) : Prop :=
  Row k164 164 W (fun k => k < base) (.slice A l.length c) (l.map cvC) ∧ ∀ k, (Value.slice A l.length c).ownBlock = some k → P k
theorem CalOk.move {base : Nat} {W W' : World} {A : Option Addr} {c : Nat} {l : List S156} {P : Nat → Prop} (h : CalOk base W A c l P) (hb : Below base W W') (hk : ∀ k, P k → W'.heap[k]? = W.heap[k]?) : CalOk base W' A c l P :=
  ⟨h.1.move (fun k hk _ => hb.block k hk) fun k hk2 => hk k (h.2 k hk2), h.2⟩
section
variable {base : Nat} {g1 g2 : Nat} {an : List S109} {gs : List Bool} {cs : List S156} {AN : List S112} {GS : List Bool} {CS : List S164} {na ng : Nat}
theorem done_pair (ag : Agree an gs cs AN GS CS na ng) (bd : Bound an gs cs) (hAN : AN.length ≤ 1100000000000) (hGS : GS.length ≤ 1100000000000) (hCS : CS.length ≤ 1100000000000) (k0 : Int) (A4 : Option Addr) (n4 c4 : Nat) (tr fu a b : Int) (A9 : Option Addr) (c9 : Nat) (l9 : List S156) (h9 : l9.length ≤ 1048576) (hx9 : ∀ x ∈ l9, x.f1.length ≤ 1048576) :
    ∃ r an' gs' cs' CS' na' ng',
      (∀ W P AN GS CS na ng, Kd.F k156 W (fun k => k < base) A9 l9.length l9 → PairQ base W g1 g2 an gs cs AN GS CS na ng P → Calls Try.prog 26 #[.pointer (some ⟨g1, 0, none⟩), .agg #[.int .i64 k0, .slice A4 n4 c4, .int .i64 tr, .int .i64 fu, .int .i64 a, .int .i64 b, .slice A9 l9.length c9]] W (PDid base W g1 g2 an' gs' cs' AN GS CS na ng P (.bool r))) ∧
      (∀ W P an gs cs A3 c3, PairQ base W g1 g2 an gs cs AN GS CS na ng P → CalOk base W A3 c3 l9 P → Calls Try.prog 27 #[.pointer (some ⟨g2, 0, none⟩), .int .i64 a, .int .i64 b, .slice A3 l9.length c3] W (PDid base W g1 g2 an gs cs AN GS CS' na' ng' P (.bool r))) ∧
      ((an' = an ∧ gs' = gs ∧ cs' = cs ∧ CS' = CS ∧ na' = na ∧ ng' = ng) ∨ ∃ a b : Nat, a ≤ an.length ∧ b ≤ gs.length ∧ an' = an.drop a ∧ gs' = gs.drop b ∧ cs' = cs ++ l9 ∧ CS' = CS ++ l9.map cvC ∧ na' = na + a ∧ ng' = ng + b) := by
  have e1 : an.length = AN.length - na := by have := congrArg List.length ag.a; simpa using this.symm
  have e2 : gs.length = GS.length - ng := by have := congrArg List.length ag.g; simpa using this.symm
  have e3 : CS.length = cs.length := by have := congrArg List.length ag.c; simpa using this
  have hla := ag.la
  have hlg := ag.lg
  by_cases hh : (0 ≤ a ∧ a ≤ (an.length : Int)) ∧ (0 ≤ b ∧ b ≤ (gs.length : Int))
  · obtain ⟨⟨ha0, ha1⟩, hb0, hb1⟩ := hh
    obtain ⟨a, rfl⟩ := Int.eq_ofNat_of_zero_le ha0
    obtain ⟨b, rfl⟩ := Int.eq_ofNat_of_zero_le hb0
    refine ⟨true, an.drop a, gs.drop b, cs ++ l9, CS ++ l9.map cvC, na + a, ng + b, ?_, ?_, .inr ⟨a, b, by omega, by omega, rfl, rfl, rfl, rfl, rfl, rfl⟩⟩
    · intro W P AN GS CS na ng hF hp
      exact hp.own fun t va vg vc q => done_yes base W g1 t an gs cs va vg vc k0 A4 n4 c4 tr fu A9 c9 l9 q a b (by omega) (by omega) bd.la bd.lg bd.lc (by omega) (qs_fr q hF) (fun x hx => by have := hx9 x hx; omega)
    · intro W P an gs cs A3 c3 hp hc
      obtain ⟨t1, va, vg, vc, t2, wa, wg, wc, qa, qb, qc, qd⟩ := hp
      have hrow := hc.1
      have hcc := rdone_yes base W g2 t2 AN GS CS wa wg wc na ng qb (by omega) (by omega) (by omega) (by omega) (by omega) (by omega) a b ⟨by omega, by omega, by omega, by omega⟩ (by omega) A3 c3 (l9.map cvC) (by rw [List.length_map]; omega) (by rw [List.length_map]; exact hrow)
        (fun k hk e => by rw [List.length_map] at hk; have h1 := (qd k (hc.2 k hk)).2.1; rw [e, qb.gtag] at h1; omega)
      rw [List.length_map] at hcc
      refine hcc.mono fun e1 w' ⟨he, hr⟩ => ⟨he, ?_⟩
      exact PairQ.ref_after qa qb qc qd (by push_cast; exact hr)
  · refine ⟨false, an, gs, cs, CS, na, ng, ?_, ?_, .inl ⟨rfl, rfl, rfl, rfl, rfl, rfl⟩⟩
    · intro W P AN GS CS na ng hF hp
      by_cases h1 : 0 ≤ a ∧ a ≤ (an.length : Int)
      · exact hp.own fun t va vg vc q => done_no2 base W g1 t an gs cs va vg vc q k0 A4 n4 c4 tr fu a b A9 c9 l9 h1 (fun h2 => hh ⟨h1, h2⟩)
      · exact hp.own fun t va vg vc q => done_no1 base W g1 t an gs cs va vg vc q k0 A4 n4 c4 tr fu a b A9 c9 l9 h1
    · intro W P an gs cs A3 c3 hp hc
      refine hp.ref fun t va vg vc q => ?_
      by_cases c1 : a < 0
      · exact rdone_no1 base W g2 t AN GS CS va vg vc na ng q (by omega) (by omega) (by omega) (by omega) (by omega) (by omega) a b c1 _
      by_cases c2 : b < 0
      · exact rdone_no2 base W g2 t AN GS CS va vg vc na ng q (by omega) (by omega) (by omega) (by omega) (by omega) (by omega) a b ⟨c1, c2⟩ _
      by_cases c3 : a > (AN.length : Int) - na
      · exact rdone_no3 base W g2 t AN GS CS va vg vc na ng q (by omega) (by omega) (by omega) (by omega) (by omega) (by omega) a b ⟨c1, c2, c3⟩ _
      · exact rdone_no4 base W g2 t AN GS CS va vg vc na ng q (by omega) (by omega) (by omega) (by omega) (by omega) (by omega) a b ⟨c1, c2, c3, by omega⟩ _
end
end Go.Proofs.Ytkpjdkmggbelfaa.Host
