/- The walk of the law LinkNames: it returns true. -/
import Derived.Test.YtkpjdkmggbelfaaLinkNamesWalk
import Derived.Test.YtkpjdkmggbelfaaLinkFewEnds
import Derived.Test.YtkpjdkmggbelfaaLinkAwake
import Derived.Test.YtkpjdkmggbelfaaLinkOpn
namespace Go.Proofs.Ytkpjdkmggbelfaa.Names
open Go.RowKit Go.Proofs.YtkpjdkmggbelfaaW.PrintWords Go.Proofs.YtkpjdkmggbelfaaW.PrintLast Go.Proofs.YtkpjdkmggbelfaaW.PrintMore Go.Proofs.Ytkpjdkmggbelfaa.PLinkNames
set_option linter.unusedVariables false
set_option linter.unusedSimpArgs false

theorem few_calls (w : World) (A0 : Option Addr) (c0 : Nat) (l0 : List S34) (A1 : Option Addr) (c1 : Nat) (l1 : List S63) (A2 : Option Addr) (c2 : Nat) (l2 : List S151) (A3 : Option Addr) (c3 : Nat) (l3 : List S37) (A4 : Option Addr) (c4 : Nat) (l4 : List S37) (A5 : Option Addr) (c5 : Nat) (l5 : List S154) (A6 : Option Addr) (c6 : Nat) (l6 : List S188) (m7 : Bool) (m8 : Int) (A9 : Option Addr) (c9 : Nat) (l9 : List S190) (A10 : Option Addr) (c10 : Nat) (l10 : List S192) (hr0 : Kd.C k34 w A0 l0.length l0) (hc0 : l0.length ≤ c0) (hr1 : Kd.C k63 w A1 l1.length l1) (hc1 : l1.length ≤ c1) (hr2 : Kd.C k151 w A2 l2.length l2) (hc2 : l2.length ≤ c2) (hr3 : Kd.C k37 w A3 l3.length l3) (hc3 : l3.length ≤ c3) (hr4 : Kd.C k37 w A4 l4.length l4) (hc4 : l4.length ≤ c4) (hr5 : Kd.C k154 w A5 l5.length l5) (hc5 : l5.length ≤ c5) (hr6 : Kd.C k188 w A6 l6.length l6) (hc6 : l6.length ≤ c6) (hr9 : Kd.C k190 w A9 l9.length l9) (hc9 : l9.length ≤ c9) (hr10 : Kd.C k192 w A10 l10.length l10) (hc10 : l10.length ≤ c10) (hok : Opn.ok58 ⟨l0, l1, l2, l3, l4, l5, l6, m7, m8, l9, l10⟩) :
    ∃ r : Bool, (r = true → l1.length ≤ 50) ∧ ∀ W : World, Below w.heap.size w W → Calls Try.prog 19 #[.agg #[.slice A0 l0.length c0, .slice A1 l1.length c1, .slice A2 l2.length c2, .slice A3 l3.length c3, .slice A4 l4.length c4, .slice A5 l5.length c5, .slice A6 l6.length c6, .bool m7, .int .u32 m8, .slice A9 l9.length c9, .slice A10 l10.length c10]] W fun e w' => e = .returned (.bool r) ∧ Below W.heap.size W w' := by
  obtain ⟨o0, o1, o2, o3, o4, o5, o6, o7, o8, o9, o10⟩ := hok
  obtain ⟨r, ⟨k, hk⟩, hr⟩ := few_ends l0 l1 l2 l3 l4 l5 l6 m7 m8 l9 l10 o0.1 o1.1 o2.1 o5.1 o6.1 o9.1 o10.1 (fun x hx => (o2.2 x hx).2.2.1) (fun x hx => (o5.2 x hx).2.1) (fun x hx => (o9.2 x hx).2.1.1) (fun x hx => (o10.2 x hx).2.1.1)
  refine ⟨r, hr, fun W hW => ?_⟩
  exact trunnionlaw21_Few.calls k A0 c0 l0 A1 c1 l1 A2 c2 l2 A3 c3 l3 A4 c4 l4 A5 c5 l5 A6 c6 l6 m7 m8 A9 c9 l9 A10 c10 l10 r W (Kd.C_below hr0 hW) hc0 (Kd.C_below hr1 hW) hc1 (Kd.C_below hr2 hW) hc2 (Kd.C_below hr3 hW) hc3 (Kd.C_below hr4 hW) hc4 (Kd.C_below hr5 hW) hc5 (Kd.C_below hr6 hW) hc6 (Kd.C_below hr9 hW) hc9 (Kd.C_below hr10 hW) hc10 hk
/-- A block that holds the module. -/
def Bm (W : World) (g : Nat) (A0 : Option Addr) (c0 : Nat) (l0 : List S34) (A1 : Option Addr) (c1 : Nat) (l1 : List S63) (A2 : Option Addr) (c2 : Nat) (l2 : List S151) (A3 : Option Addr) (c3 : Nat) (l3 : List S37) (A4 : Option Addr) (c4 : Nat) (l4 : List S37) (A5 : Option Addr) (c5 : Nat) (l5 : List S154) (A6 : Option Addr) (c6 : Nat) (l6 : List S188) (m7 : Bool) (m8 : Int) (A9 : Option Addr) (c9 : Nat) (l9 : List S190) (A10 : Option Addr) (c10 : Nat) (l10 : List S192) : Prop := W.heap[g]? = some (.cells #[.slice A0 l0.length c0, .slice A1 l1.length c1, .slice A2 l2.length c2, .slice A3 l3.length c3, .slice A4 l4.length c4, .slice A5 l5.length c5, .slice A6 l6.length c6, .bool m7, .int .u32 m8, .slice A9 l9.length c9, .slice A10 l10.length c10] 58 (0, 0))
theorem at_pair {w : World} {A : Option Addr} {l : List S63} (h : kp.C w A l.length (pairs l)) (i : Nat) (hi : i < l.length) :
    ∃ ad, A = some ad ∧ w.cell? (ad.add (i * 2)) = some (.string (rd_T63 l (i : Int)).f0) ∧ w.cell? (ad.add (i * 2 + 1)) = some (.string (rd_T63 l (i : Int)).f1) := by
  obtain ⟨ad, c, e, hl, hk, hc⟩ := Kd.C_get h (⟨#[]⟩, ⟨#[]⟩) (i : Int) (by omega) (by omega)
  have e2 : (pairs l).getD (Int.toNat (i : Int)) (⟨#[]⟩, ⟨#[]⟩) = two (rd_T63 l (i : Int)) := by
    simp [pairs, rd_T63, List.getD_eq_getElem?_getD, List.getElem?_eq_getElem hi]
  rw [e2] at hk
  obtain ⟨_, _, rfl, rfl, rfl⟩ := hk
  exact ⟨ad, e, hc 0 _ rfl, hc 1 _ rfl⟩
set_option maxRecDepth 100000 in
set_option maxHeartbeats 4000000 in
theorem law_walk (w : World) (A0 : Option Addr) (c0 : Nat) (l0 : List S34) (A1 : Option Addr) (c1 : Nat) (l1 : List S63) (A2 : Option Addr) (c2 : Nat) (l2 : List S151) (A3 : Option Addr) (c3 : Nat) (l3 : List S37) (A4 : Option Addr) (c4 : Nat) (l4 : List S37) (A5 : Option Addr) (c5 : Nat) (l5 : List S154) (A6 : Option Addr) (c6 : Nat) (l6 : List S188) (m7 : Bool) (m8 : Int) (A9 : Option Addr) (c9 : Nat) (l9 : List S190) (A10 : Option Addr) (c10 : Nat) (l10 : List S192) (hr0 : Kd.C k34 w A0 l0.length l0) (hc0 : l0.length ≤ c0) (hr1 : Kd.C k63 w A1 l1.length l1) (hc1 : l1.length ≤ c1) (hr2 : Kd.C k151 w A2 l2.length l2) (hc2 : l2.length ≤ c2) (hr3 : Kd.C k37 w A3 l3.length l3) (hc3 : l3.length ≤ c3) (hr4 : Kd.C k37 w A4 l4.length l4) (hc4 : l4.length ≤ c4) (hr5 : Kd.C k154 w A5 l5.length l5) (hc5 : l5.length ≤ c5) (hr6 : Kd.C k188 w A6 l6.length l6) (hc6 : l6.length ≤ c6) (hr9 : Kd.C k190 w A9 l9.length l9) (hc9 : l9.length ≤ c9) (hr10 : Kd.C k192 w A10 l10.length l10) (hc10 : l10.length ≤ c10) (hok : Opn.ok58 ⟨l0, l1, l2, l3, l4, l5, l6, m7, m8, l9, l10⟩) :
    Calls Try.prog 5 #[.agg #[.slice A0 l0.length c0, .slice A1 l1.length c1, .slice A2 l2.length c2, .slice A3 l3.length c3, .slice A4 l4.length c4, .slice A5 l5.length c5, .slice A6 l6.length c6, .bool m7, .int .u32 m8, .slice A9 l9.length c9, .slice A10 l10.length c10]] w fun e w' => e = .returned (.bool true) ∧ Below w.heap.size w w' := by
  obtain ⟨r, hr, FC⟩ := few_calls w A0 c0 l0 A1 c1 l1 A2 c2 l2 A3 c3 l3 A4 c4 l4 A5 c5 l5 A6 c6 l6 m7 m8 A9 c9 l9 A10 c10 l10 hr0 hc0 hr1 hc1 hr2 hc2 hr3 hc3 hr4 hc4 hr5 hc5 hr6 hc6 hr9 hc9 hr10 hc10 hok
  have FF := Aside0.mk FC
  have HR := Aside0.mk hr1
  have hu58 := Try.underlying58
  have hu63 := Try.underlying63
  have HB := Aside0.mk (below_alloc (Below.refl w.heap.size w) (.cells #[.slice A0 l0.length c0, .slice A1 l1.length c1, .slice A2 l2.length c2, .slice A3 l3.length c3, .slice A4 l4.length c4, .slice A5 l5.length c5, .slice A6 l6.length c6, .bool m7, .int .u32 m8, .slice A9 l9.length c9, .slice A10 l10.length c10] 58))
  have BX : Aside0 (Bm (w.alloc (.cells #[.slice A0 l0.length c0, .slice A1 l1.length c1, .slice A2 l2.length c2, .slice A3 l3.length c3, .slice A4 l4.length c4, .slice A5 l5.length c5, .slice A6 l6.length c6, .bool m7, .int .u32 m8, .slice A9 l9.length c9, .slice A10 l10.length c10] 58)) w.heap.size A0 c0 l0 A1 c1 l1 A2 c2 l2 A3 c3 l3 A4 c4 l4 A5 c5 l5 A6 c6 l6 m7 m8 A9 c9 l9 A10 c10 l10) := Aside0.mk (heap_alloc_new w (.cells #[.slice A0 l0.length c0, .slice A1 l1.length c1, .slice A2 l2.length c2, .slice A3 l3.length c3, .slice A4 l4.length c4, .slice A5 l5.length c5, .slice A6 l6.length c6, .bool m7, .int .u32 m8, .slice A9 l9.length c9, .slice A10 l10.length c10] 58))
  clear FC hr0 hc0 hr1 hc1 hr2 hc2 hr3 hc3 hr4 hc4 hr5 hc5 hr6 hc6 hr9 hc9 hr10 hc10 hok
  cases r with
  | false =>
    clear hr
    go_enter Try.func5, Try.ntmps5
    go_wp2_with fail
    refine (Link.awake_calls _).mono ?_
    rintro e w1 ⟨rfl, hb⟩
    have HB1 := Aside0.mk (below_then HB.out HB.out.size hb)
    have BX1 : Bm w1 w.heap.size A0 c0 l0 A1 c1 l1 A2 c2 l2 A3 c3 l3 A4 c4 l4 A5 c5 l5 A6 c6 l6 m7 m8 A9 c9 l9 A10 c10 l10 := (hb.block _ (blk_lt BX.out)).trans BX.out
    clear hb HB BX
    have q0 : w1.cell? ⟨w.heap.size, 0, none⟩ = some (.slice A0 l0.length c0) := (blk_cell BX1 0).trans rfl
    have q1 : w1.cell? ⟨w.heap.size, 1, none⟩ = some (.slice A1 l1.length c1) := (blk_cell BX1 1).trans rfl
    have q2 : w1.cell? ⟨w.heap.size, 2, none⟩ = some (.slice A2 l2.length c2) := (blk_cell BX1 2).trans rfl
    have q3 : w1.cell? ⟨w.heap.size, 3, none⟩ = some (.slice A3 l3.length c3) := (blk_cell BX1 3).trans rfl
    have q4 : w1.cell? ⟨w.heap.size, 4, none⟩ = some (.slice A4 l4.length c4) := (blk_cell BX1 4).trans rfl
    have q5 : w1.cell? ⟨w.heap.size, 5, none⟩ = some (.slice A5 l5.length c5) := (blk_cell BX1 5).trans rfl
    have q6 : w1.cell? ⟨w.heap.size, 6, none⟩ = some (.slice A6 l6.length c6) := (blk_cell BX1 6).trans rfl
    have q7 : w1.cell? ⟨w.heap.size, 7, none⟩ = some (.bool m7) := (blk_cell BX1 7).trans rfl
    have q8 : w1.cell? ⟨w.heap.size, 8, none⟩ = some (.int .u32 m8) := (blk_cell BX1 8).trans rfl
    have q9 : w1.cell? ⟨w.heap.size, 9, none⟩ = some (.slice A9 l9.length c9) := (blk_cell BX1 9).trans rfl
    have q10 : w1.cell? ⟨w.heap.size, 10, none⟩ = some (.slice A10 l10.length c10) := (blk_cell BX1 10).trans rfl
    have BX := Aside0.mk BX1
    clear BX1
    go_wp2_with fail
    refine (FF.out w1 HB1.out).mono ?_
    rintro e w2 ⟨rfl, hb⟩
    have HB2 := Aside0.mk (below_then HB1.out HB1.out.size hb)
    clear hb q0 q1 q2 q3 q4 q5 q6 q7 q8 q9 q10
    go_wp2
    go_ret
    exact ⟨rfl, HB2.out⟩
  | true =>
    have hl := hr rfl
    clear hr
    have HL := Aside0.mk hl
    clear hl
    go_enter Try.func5, Try.ntmps5
    go_wp2_with fail
    refine (Link.awake_calls _).mono ?_
    rintro e w1 ⟨rfl, hb⟩
    have HB1 := Aside0.mk (below_then HB.out HB.out.size hb)
    have BX1 : Bm w1 w.heap.size A0 c0 l0 A1 c1 l1 A2 c2 l2 A3 c3 l3 A4 c4 l4 A5 c5 l5 A6 c6 l6 m7 m8 A9 c9 l9 A10 c10 l10 := (hb.block _ (blk_lt BX.out)).trans BX.out
    clear hb HB BX
    have q0 : w1.cell? ⟨w.heap.size, 0, none⟩ = some (.slice A0 l0.length c0) := (blk_cell BX1 0).trans rfl
    have q1 : w1.cell? ⟨w.heap.size, 1, none⟩ = some (.slice A1 l1.length c1) := (blk_cell BX1 1).trans rfl
    have q2 : w1.cell? ⟨w.heap.size, 2, none⟩ = some (.slice A2 l2.length c2) := (blk_cell BX1 2).trans rfl
    have q3 : w1.cell? ⟨w.heap.size, 3, none⟩ = some (.slice A3 l3.length c3) := (blk_cell BX1 3).trans rfl
    have q4 : w1.cell? ⟨w.heap.size, 4, none⟩ = some (.slice A4 l4.length c4) := (blk_cell BX1 4).trans rfl
    have q5 : w1.cell? ⟨w.heap.size, 5, none⟩ = some (.slice A5 l5.length c5) := (blk_cell BX1 5).trans rfl
    have q6 : w1.cell? ⟨w.heap.size, 6, none⟩ = some (.slice A6 l6.length c6) := (blk_cell BX1 6).trans rfl
    have q7 : w1.cell? ⟨w.heap.size, 7, none⟩ = some (.bool m7) := (blk_cell BX1 7).trans rfl
    have q8 : w1.cell? ⟨w.heap.size, 8, none⟩ = some (.int .u32 m8) := (blk_cell BX1 8).trans rfl
    have q9 : w1.cell? ⟨w.heap.size, 9, none⟩ = some (.slice A9 l9.length c9) := (blk_cell BX1 9).trans rfl
    have q10 : w1.cell? ⟨w.heap.size, 10, none⟩ = some (.slice A10 l10.length c10) := (blk_cell BX1 10).trans rfl
    have BX := Aside0.mk BX1
    clear BX1
    go_wp2_with fail
    refine (FF.out w1 HB1.out).mono ?_
    rintro e w2 ⟨rfl, hb⟩
    have HB2 := Aside0.mk (below_then HB1.out HB1.out.size hb)
    have BX1 : Bm w2 w.heap.size A0 c0 l0 A1 c1 l1 A2 c2 l2 A3 c3 l3 A4 c4 l4 A5 c5 l5 A6 c6 l6 m7 m8 A9 c9 l9 A10 c10 l10 := (hb.block _ (blk_lt BX.out)).trans BX.out
    clear hb q0 q1 q2 q3 q4 q5 q6 q7 q8 q9 q10 BX HB1
    have q0 : w2.cell? ⟨w.heap.size, 0, none⟩ = some (.slice A0 l0.length c0) := (blk_cell BX1 0).trans rfl
    have q1 : w2.cell? ⟨w.heap.size, 1, none⟩ = some (.slice A1 l1.length c1) := (blk_cell BX1 1).trans rfl
    have q2 : w2.cell? ⟨w.heap.size, 2, none⟩ = some (.slice A2 l2.length c2) := (blk_cell BX1 2).trans rfl
    have q3 : w2.cell? ⟨w.heap.size, 3, none⟩ = some (.slice A3 l3.length c3) := (blk_cell BX1 3).trans rfl
    have q4 : w2.cell? ⟨w.heap.size, 4, none⟩ = some (.slice A4 l4.length c4) := (blk_cell BX1 4).trans rfl
    have q5 : w2.cell? ⟨w.heap.size, 5, none⟩ = some (.slice A5 l5.length c5) := (blk_cell BX1 5).trans rfl
    have q6 : w2.cell? ⟨w.heap.size, 6, none⟩ = some (.slice A6 l6.length c6) := (blk_cell BX1 6).trans rfl
    have q7 : w2.cell? ⟨w.heap.size, 7, none⟩ = some (.bool m7) := (blk_cell BX1 7).trans rfl
    have q8 : w2.cell? ⟨w.heap.size, 8, none⟩ = some (.int .u32 m8) := (blk_cell BX1 8).trans rfl
    have q9 : w2.cell? ⟨w.heap.size, 9, none⟩ = some (.slice A9 l9.length c9) := (blk_cell BX1 9).trans rfl
    have q10 : w2.cell? ⟨w.heap.size, 10, none⟩ = some (.slice A10 l10.length c10) := (blk_cell BX1 10).trans rfl
    have BX := Aside0.mk BX1
    clear BX1
    go_wp2_with fail
    refine (Names_calls w2 A0 c0 l0 A1 c1 l1 A2 c2 l2 A3 c3 l3 A4 c4 l4 A5 c5 l5 A6 c6 l6 m7 m8 A9 c9 l9 A10 c10 l10 (Kd.C_below HR.out HB2.out) HL.out).mono ?_
    rintro e w3 ⟨v, rfl, ho, hb⟩
    obtain ⟨A, c, rfl, hc, hC⟩ := Kd.R_reads ho
    rw [pairs_len] at hC
    simp only [pairs_len]
    have HO := Aside0.mk hC
    have HB3 := Aside0.mk (below_then HB2.out HB2.out.size hb)
    have BX1 : Bm w3 w.heap.size A0 c0 l0 A1 c1 l1 A2 c2 l2 A3 c3 l3 A4 c4 l4 A5 c5 l5 A6 c6 l6 m7 m8 A9 c9 l9 A10 c10 l10 := (hb.block _ (blk_lt BX.out)).trans BX.out
    clear hb ho hc hC q0 q1 q2 q3 q4 q5 q6 q7 q8 q9 q10 BX HB2
    have q0 : w3.cell? ⟨w.heap.size, 0, none⟩ = some (.slice A0 l0.length c0) := (blk_cell BX1 0).trans rfl
    have q1 : w3.cell? ⟨w.heap.size, 1, none⟩ = some (.slice A1 l1.length c1) := (blk_cell BX1 1).trans rfl
    have q2 : w3.cell? ⟨w.heap.size, 2, none⟩ = some (.slice A2 l2.length c2) := (blk_cell BX1 2).trans rfl
    have q3 : w3.cell? ⟨w.heap.size, 3, none⟩ = some (.slice A3 l3.length c3) := (blk_cell BX1 3).trans rfl
    have q4 : w3.cell? ⟨w.heap.size, 4, none⟩ = some (.slice A4 l4.length c4) := (blk_cell BX1 4).trans rfl
    have q5 : w3.cell? ⟨w.heap.size, 5, none⟩ = some (.slice A5 l5.length c5) := (blk_cell BX1 5).trans rfl
    have q6 : w3.cell? ⟨w.heap.size, 6, none⟩ = some (.slice A6 l6.length c6) := (blk_cell BX1 6).trans rfl
    have q7 : w3.cell? ⟨w.heap.size, 7, none⟩ = some (.bool m7) := (blk_cell BX1 7).trans rfl
    have q8 : w3.cell? ⟨w.heap.size, 8, none⟩ = some (.int .u32 m8) := (blk_cell BX1 8).trans rfl
    have q9 : w3.cell? ⟨w.heap.size, 9, none⟩ = some (.slice A9 l9.length c9) := (blk_cell BX1 9).trans rfl
    have q10 : w3.cell? ⟨w.heap.size, 10, none⟩ = some (.slice A10 l10.length c10) := (blk_cell BX1 10).trans rfl
    clear BX1
    go_wp2
    clear q0 q1 q2 q3 q4 q5 q6 q7 q8 q9 q10
    go_loopg [22] l1.length (fun d v22 w' => ∃ (i : Nat), v22 = .int .i64 (i : Int) ∧ Aside0 (i + d = l1.length) ∧ Aside0 (Below w3.heap.size w3 w'))
    case atStart => exact ⟨0, rfl, ⟨by omega⟩, ⟨Below.refl _ _⟩⟩
    case round =>
      obtain ⟨i, rfl, HI, HW⟩ := hrel
      have HB : Aside0 (Below w.heap.size w wr) := Aside0.mk (below_then HB3.out HB3.out.size HW.out)
      cases gk with
      | zero =>
        have hi : i = l1.length := by have := HI.out; omega
        subst hi
        go_wp2
        go_ret
        exact ⟨rfl, HB.out⟩
      | succ d =>
      have hi : i < l1.length := by have := HI.out; omega
      have hi1 : (i : Int) < (l1.length : Int) := by omega
      have hm : (l1.length : Int) ≤ 50 := by have := HL.out; omega
      obtain ⟨ad, e1, x0, x1, x2, x3, x4, x5, x6, x7, x8⟩ := at_T63 HR.out (i : Int) (by omega) (by omega)
      subst e1
      obtain ⟨ad2, e2, z0, z1⟩ := at_pair HO.out i hi
      subst e2
      obtain ⟨X, hX⟩ : ∃ X, X = rd_T63 l1 (i : Int) := ⟨_, rfl⟩
      rw [← hX] at x0 x1 x2 x3 x4 x5 x6 x7 x8 z0 z1
      clear hX
      replace x0 := (HB.out.cell (World.block_lt_of_cell? w _ x0)).trans x0
      replace x1 := (HB.out.cell (World.block_lt_of_cell? w _ x1)).trans x1
      replace x2 := (HB.out.cell (World.block_lt_of_cell? w _ x2)).trans x2
      replace x3 := (HB.out.cell (World.block_lt_of_cell? w _ x3)).trans x3
      replace x4 := (HB.out.cell (World.block_lt_of_cell? w _ x4)).trans x4
      replace x5 := (HB.out.cell (World.block_lt_of_cell? w _ x5)).trans x5
      replace x6 := (HB.out.cell (World.block_lt_of_cell? w _ x6)).trans x6
      replace x7 := (HB.out.cell (World.block_lt_of_cell? w _ x7)).trans x7
      replace x8 := (HB.out.cell (World.block_lt_of_cell? w _ x8)).trans x8
      simp only [Int.toNat_natCast] at x0 x1 x2 x3 x4 x5 x6 x7 x8
      replace z0 := (HW.out.cell (World.block_lt_of_cell? w3 _ z0)).trans z0
      replace z1 := (HW.out.cell (World.block_lt_of_cell? w3 _ z1)).trans z1
      rw [add_field _ _ _ (by decide)] at z1
      have y0 : ∀ o, (wr.alloc o).cell? (ad2.add (i * 2)) = some (.string X.f0) := fun o => ((below_alloc (Below.refl _ _) o).cell (World.block_lt_of_cell? wr _ z0)).trans z0
      have y1 : ∀ o, (wr.alloc o).cell? ⟨(ad2.add (i * 2)).block, (ad2.add (i * 2)).off + 1, none⟩ = some (.string X.f1) := fun o => ((below_alloc (Below.refl _ _) o).cell (World.block_lt_of_cell? wr _ z1)).trans z1
      clear z0 z1
      go_wp2
      go_quiet (fail)
      go_wp2
      go_roundg d
      case measure => omega
      case rel => exact ⟨i + 1, by simp, ⟨by have := HI.out; omega⟩, ⟨pw_below_drewN (below_alloc HW.out _) _⟩⟩
end Go.Proofs.Ytkpjdkmggbelfaa.Names
