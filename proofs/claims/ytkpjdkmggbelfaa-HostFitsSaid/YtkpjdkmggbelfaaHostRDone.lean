/- The walk of the reference's Done. -/
import Derived.Test.YtkpjdkmggbelfaaHostConv
import Derived.Outline
namespace Go.Proofs.Ytkpjdkmggbelfaa.Host
open Go.RowKit Go.Proofs.YtkpjdkmggbelfaaW.PrintWords Go.Proofs.YtkpjdkmggbelfaaW.PrintLast Go.Proofs.YtkpjdkmggbelfaaW.PrintMore Go.Proofs.Ytkpjdkmggbelfaa.Mem Go.Proofs.Ytkpjdkmggbelfaa.PHostPlays
set_option linter.unusedVariables false
set_option linter.unusedSimpArgs false
theorem RsAfter.from_below {base : Nat} {W W1 W2 : World} {g : Nat} {tag : Nat → Nat} {an0 an : List S112} {gs0 gs : List Bool} {cs0 cs : List S164} {va vg vc : Value} {na0 ng0 na ng : Int} (h : Rs base W g tag an0 gs0 cs0 va vg vc na0 ng0) (hb : Below W.heap.size W W1) (h2 : RsAfter base W1 g tag an gs cs na ng W2) : RsAfter base W g tag an gs cs na ng W2 :=
  RsAfter.then_ (Kept.of_below hb _) (hb.mono h.low) (fun k hk => .inl hk) (fun k hk => ⟨hb.block k (h.tagged k (by omega)).2, hk⟩) h2
section
variable {base : Nat} {W : World} {g : Nat} {tag : Nat → Nat} {an : List S112} {gs : List Bool} {cs : List S164} {va vg vc : Value} {na ng : Int}
theorem Rs.set_na (h : Rs base W g tag an gs cs va vg vc na ng) (x : Int) : Rs base (W.setCell ⟨g, 2, none⟩ (.int .i64 x)) g tag an gs cs va vg vc x ng := by
  have hgb := (h.tagged g (by rw [h.gtag]; decide)).1
  have far : ∀ k, k ≠ g → (W.setCell ⟨g, 2, none⟩ (.int .i64 x)).heap[k]? = W.heap[k]? := fun k hk => Below.heap_setCell W ⟨g, 2, none⟩ _ k hk
  have hsz : (W.setCell ⟨g, 2, none⟩ (.int .i64 x)).heap.size = W.heap.size := by simp [World.setCell]
  have gne : ∀ k, Okk base tag k → k ≠ g := by
    rintro k hk rfl
    rcases hk with hk | hk
    · omega
    · rw [h.gtag] at hk; omega
  have tne : ∀ k n, tag k = n → n ≠ 1 → k ≠ g := by
    rintro k n hk hn rfl
    rw [h.gtag] at hk; omega
  refine ⟨fun k hk => by rw [hsz]; exact h.tagged k hk, blk_set h.box 2 (.int .i64 x), h.gtag, h.at_, h.gt_, h.ct_, ?_, ?_, ?_⟩
  · exact h.ra.move (fun k hk _ => far k (gne k hk)) fun k hk => far k (tne k 2 (h.at_ k hk) (by decide))
  · exact h.rg.move (fun k hk _ => far k (gne k hk)) fun k hk => far k (tne k 4 (h.gt_ k hk) (by decide))
  · exact h.rc.move (fun k hk _ => far k (gne k hk)) fun k hk => far k (tne k 5 (h.ct_ k hk) (by decide))
theorem Rs.set_na_after {W2 : World} {an2 : List S112} {gs2 : List Bool} {cs2 : List S164} {na2 ng2 : Int} (h : Rs base W g tag an gs cs va vg vc na ng) (x : Int) (h2 : RsAfter base (W.setCell ⟨g, 2, none⟩ (.int .i64 x)) g tag an2 gs2 cs2 na2 ng2 W2) : RsAfter base W g tag an2 gs2 cs2 na2 ng2 W2 := by
  have hgb := (h.tagged g (by rw [h.gtag]; decide)).1
  have far : ∀ k, k ≠ g → (W.setCell ⟨g, 2, none⟩ (.int .i64 x)).heap[k]? = W.heap[k]? := fun k hk => Below.heap_setCell W ⟨g, 2, none⟩ _ k hk
  refine RsAfter.then_ (Kept.setCell (Kept.refl _ _) (.inl (by show tag g ≠ 0; rw [h.gtag]; decide)) _) ((Below.refl _ _).setCell hgb _) (fun k hk => .inl hk) (fun k hk => ⟨far k (by rintro rfl; rw [h.gtag] at hk; omega), hk⟩) h2
theorem Rs.set_ng (h : Rs base W g tag an gs cs va vg vc na ng) (x : Int) : Rs base (W.setCell ⟨g, 3, none⟩ (.int .i64 x)) g tag an gs cs va vg vc na x := by
  have hgb := (h.tagged g (by rw [h.gtag]; decide)).1
  have far : ∀ k, k ≠ g → (W.setCell ⟨g, 3, none⟩ (.int .i64 x)).heap[k]? = W.heap[k]? := fun k hk => Below.heap_setCell W ⟨g, 3, none⟩ _ k hk
  have hsz : (W.setCell ⟨g, 3, none⟩ (.int .i64 x)).heap.size = W.heap.size := by simp [World.setCell]
  have gne : ∀ k, Okk base tag k → k ≠ g := by
    rintro k hk rfl
    rcases hk with hk | hk
    · omega
    · rw [h.gtag] at hk; omega
  have tne : ∀ k n, tag k = n → n ≠ 1 → k ≠ g := by
    rintro k n hk hn rfl
    rw [h.gtag] at hk; omega
  refine ⟨fun k hk => by rw [hsz]; exact h.tagged k hk, blk_set h.box 3 (.int .i64 x), h.gtag, h.at_, h.gt_, h.ct_, ?_, ?_, ?_⟩
  · exact h.ra.move (fun k hk _ => far k (gne k hk)) fun k hk => far k (tne k 2 (h.at_ k hk) (by decide))
  · exact h.rg.move (fun k hk _ => far k (gne k hk)) fun k hk => far k (tne k 4 (h.gt_ k hk) (by decide))
  · exact h.rc.move (fun k hk _ => far k (gne k hk)) fun k hk => far k (tne k 5 (h.ct_ k hk) (by decide))
theorem Rs.set_ng_after {W2 : World} {an2 : List S112} {gs2 : List Bool} {cs2 : List S164} {na2 ng2 : Int} (h : Rs base W g tag an gs cs va vg vc na ng) (x : Int) (h2 : RsAfter base (W.setCell ⟨g, 3, none⟩ (.int .i64 x)) g tag an2 gs2 cs2 na2 ng2 W2) : RsAfter base W g tag an2 gs2 cs2 na2 ng2 W2 := by
  have hgb := (h.tagged g (by rw [h.gtag]; decide)).1
  have far : ∀ k, k ≠ g → (W.setCell ⟨g, 3, none⟩ (.int .i64 x)).heap[k]? = W.heap[k]? := fun k hk => Below.heap_setCell W ⟨g, 3, none⟩ _ k hk
  refine RsAfter.then_ (Kept.setCell (Kept.refl _ _) (.inl (by show tag g ≠ 0; rw [h.gtag]; decide)) _) ((Below.refl _ _).setCell hgb _) (fun k hk => .inl hk) (fun k hk => ⟨far k (by rintro rfl; rw [h.gtag] at hk; omega), hk⟩) h2
end
theorem Row.raw {α : Type} {d : Kd α} {e n c : Nat} {ok : Nat → Prop} {W : World} {A : Option Addr} {xs : List α} (h : Row d e W ok (.slice A n c) xs) : ∃ rows : List (List Value), rows.length = xs.length ∧ RawSrc W d.sz A xs.length rows.flatten ∧ ∀ (j : Nat) (x : α) (c : List Value), xs[j]? = some x → rows[j]? = some c → Kd.FK d W ok x c := by
  obtain ⟨rows, hl, hL, hf⟩ := h
  refine ⟨rows, hl, ⟨by rw [flat_length (rows_len hl hf), hl], rows_one hl hf, fun hA => ?_, fun ad e j u hu => hL.get.2.2 ad e j u hu⟩, hf⟩
  rcases hL.2 with ⟨_, h0⟩ | ⟨g, cap, cur, he, _⟩
  · exact h0
  · injection he with he
    rw [hA] at he
    cases he
def RBool (base : Nat) (w : World) (g : Nat) (tag : Nat → Nat) (an : List S112) (gs : List Bool) (cs : List S164) (na ng : Int) (b : Bool) (e : Ending) (w' : World) : Prop := e = .returned (.bool b) ∧ RsAfter base w g tag an gs cs na ng w'
section
variable (base : Nat) (w : World) (g : Nat) (tag : Nat → Nat) (an : List S112) (gs : List Bool) (cs : List S164) (va vg vc : Value) (na ng : Int) (h : Rs base w g tag an gs cs va vg vc na ng) (hn : an.length ≤ 4398046510976) (hng : gs.length ≤ 140737488351232) (n0 : 0 ≤ na) (n1 : na ≤ (an.length : Int)) (g0 : 0 ≤ ng) (g1 : ng ≤ (gs.length : Int)) (a b : Int)
include h hn hng n0 n1 g0 g1
set_option maxRecDepth 100000 in
set_option maxHeartbeats 4000000 in
theorem rdone_no1 (hh : a < 0) (v : Value) : Calls Try.prog 27 #[.pointer (some ⟨g, 0, none⟩), .int .i64 a, .int .i64 b, v] w (RBool base w g tag an gs cs na ng false) := by
  have hused := And.intro hn (And.intro hng (And.intro n0 (And.intro n1 (And.intro g0 g1))))
  clear hused
  obtain ⟨Aa, ca, rfl⟩ := h.ra.one
  obtain ⟨Ag, cg, rfl⟩ := h.rg.one
  have y0 : w.cell? ⟨g, 0, none⟩ = some (.slice Aa an.length ca) := (blk_cell h.box 0).trans rfl
  have y1 : w.cell? ⟨g, 1, none⟩ = some (.slice Ag gs.length cg) := (blk_cell h.box 1).trans rfl
  have y2 : w.cell? ⟨g, 2, none⟩ = some (.int .i64 na) := (blk_cell h.box 2).trans rfl
  have y3 : w.cell? ⟨g, 3, none⟩ = some (.int .i64 ng) := (blk_cell h.box 3).trans rfl
  have H := Aside0.mk h
  have hnI : (an.length : Int) ≤ 140737488351232 := by omega
  have hgI : (gs.length : Int) ≤ 140737488351232 := by omega
  have e0 : decide (a < 0) = true := decide_eq_true (by omega)
  clear h hn hng hh
  go_enter Try.func27, Try.ntmps27
  go_wp2
  go_quiet (fail)
  go_wp2
  go_ret
  exact ⟨rfl, RsAfter.same H.out (pw_below_drewN (Below.refl _ _) _)⟩
set_option maxRecDepth 100000 in
set_option maxHeartbeats 4000000 in
theorem rdone_no2 (hh : ¬ a < 0 ∧ b < 0) (v : Value) : Calls Try.prog 27 #[.pointer (some ⟨g, 0, none⟩), .int .i64 a, .int .i64 b, v] w (RBool base w g tag an gs cs na ng false) := by
  have hused := And.intro hn (And.intro hng (And.intro n0 (And.intro n1 (And.intro g0 g1))))
  clear hused
  obtain ⟨Aa, ca, rfl⟩ := h.ra.one
  obtain ⟨Ag, cg, rfl⟩ := h.rg.one
  have y0 : w.cell? ⟨g, 0, none⟩ = some (.slice Aa an.length ca) := (blk_cell h.box 0).trans rfl
  have y1 : w.cell? ⟨g, 1, none⟩ = some (.slice Ag gs.length cg) := (blk_cell h.box 1).trans rfl
  have y2 : w.cell? ⟨g, 2, none⟩ = some (.int .i64 na) := (blk_cell h.box 2).trans rfl
  have y3 : w.cell? ⟨g, 3, none⟩ = some (.int .i64 ng) := (blk_cell h.box 3).trans rfl
  have H := Aside0.mk h
  have hnI : (an.length : Int) ≤ 140737488351232 := by omega
  have hgI : (gs.length : Int) ≤ 140737488351232 := by omega
  have e0 : decide (a < 0) = false := decide_eq_false (by omega)
  have e1 : decide (b < 0) = true := decide_eq_true (by omega)
  clear h hn hng hh
  go_enter Try.func27, Try.ntmps27
  go_wp2
  go_quiet (fail)
  go_wp2
  go_ret
  exact ⟨rfl, RsAfter.same H.out (pw_below_drewN (Below.refl _ _) _)⟩
set_option maxRecDepth 100000 in
set_option maxHeartbeats 4000000 in
theorem rdone_no3 (hh : ¬ a < 0 ∧ ¬ b < 0 ∧ a > (an.length : Int) - na) (v : Value) : Calls Try.prog 27 #[.pointer (some ⟨g, 0, none⟩), .int .i64 a, .int .i64 b, v] w (RBool base w g tag an gs cs na ng false) := by
  have hused := And.intro hn (And.intro hng (And.intro n0 (And.intro n1 (And.intro g0 g1))))
  clear hused
  obtain ⟨Aa, ca, rfl⟩ := h.ra.one
  obtain ⟨Ag, cg, rfl⟩ := h.rg.one
  have y0 : w.cell? ⟨g, 0, none⟩ = some (.slice Aa an.length ca) := (blk_cell h.box 0).trans rfl
  have y1 : w.cell? ⟨g, 1, none⟩ = some (.slice Ag gs.length cg) := (blk_cell h.box 1).trans rfl
  have y2 : w.cell? ⟨g, 2, none⟩ = some (.int .i64 na) := (blk_cell h.box 2).trans rfl
  have y3 : w.cell? ⟨g, 3, none⟩ = some (.int .i64 ng) := (blk_cell h.box 3).trans rfl
  have H := Aside0.mk h
  have hnI : (an.length : Int) ≤ 140737488351232 := by omega
  have hgI : (gs.length : Int) ≤ 140737488351232 := by omega
  have e0 : decide (a < 0) = false := decide_eq_false (by omega)
  have e1 : decide (b < 0) = false := decide_eq_false (by omega)
  have e2 : decide (a > (an.length : Int) - na) = true := decide_eq_true (by omega)
  clear h hn hng hh
  go_enter Try.func27, Try.ntmps27
  go_wp2
  go_quiet (fail)
  go_wp2
  go_ret
  exact ⟨rfl, RsAfter.same H.out (pw_below_drewN (Below.refl _ _) _)⟩
set_option maxRecDepth 100000 in
set_option maxHeartbeats 4000000 in
theorem rdone_no4 (hh : ¬ a < 0 ∧ ¬ b < 0 ∧ ¬ a > (an.length : Int) - na ∧ b > (gs.length : Int) - ng) (v : Value) : Calls Try.prog 27 #[.pointer (some ⟨g, 0, none⟩), .int .i64 a, .int .i64 b, v] w (RBool base w g tag an gs cs na ng false) := by
  have hused := And.intro hn (And.intro hng (And.intro n0 (And.intro n1 (And.intro g0 g1))))
  clear hused
  obtain ⟨Aa, ca, rfl⟩ := h.ra.one
  obtain ⟨Ag, cg, rfl⟩ := h.rg.one
  have y0 : w.cell? ⟨g, 0, none⟩ = some (.slice Aa an.length ca) := (blk_cell h.box 0).trans rfl
  have y1 : w.cell? ⟨g, 1, none⟩ = some (.slice Ag gs.length cg) := (blk_cell h.box 1).trans rfl
  have y2 : w.cell? ⟨g, 2, none⟩ = some (.int .i64 na) := (blk_cell h.box 2).trans rfl
  have y3 : w.cell? ⟨g, 3, none⟩ = some (.int .i64 ng) := (blk_cell h.box 3).trans rfl
  have H := Aside0.mk h
  have hnI : (an.length : Int) ≤ 140737488351232 := by omega
  have hgI : (gs.length : Int) ≤ 140737488351232 := by omega
  have e0 : decide (a < 0) = false := decide_eq_false (by omega)
  have e1 : decide (b < 0) = false := decide_eq_false (by omega)
  have e2 : decide (a > (an.length : Int) - na) = false := decide_eq_false (by omega)
  have e3 : decide (b > (gs.length : Int) - ng) = true := decide_eq_true (by omega)
  clear h hn hng hh
  go_enter Try.func27, Try.ntmps27
  go_wp2
  go_quiet (fail)
  go_wp2
  go_ret
  exact ⟨rfl, RsAfter.same H.out (pw_below_drewN (Below.refl _ _) _)⟩
set_option maxRecDepth 100000 in
set_option maxHeartbeats 8000000 in
theorem rdone_yes (hh : 0 ≤ a ∧ 0 ≤ b ∧ a ≤ (an.length : Int) - na ∧ b ≤ (gs.length : Int) - ng) (hcl : cs.length ≤ 1500000000000) (A : Option Addr) (c : Nat) (l : List S164) (hl : l.length ≤ 1500000000000) (hr : Row k164 164 w (fun k => k < base) (.slice A l.length c) l) (hg : ∀ k, (Value.slice A l.length c).ownBlock = some k → k ≠ g) :
    Calls Try.prog 27 #[.pointer (some ⟨g, 0, none⟩), .int .i64 a, .int .i64 b, .slice A l.length c] w (RBool base w g tag an gs (cs ++ l) (na + a) (ng + b) true) := by
  have hused := And.intro hn (And.intro hng (And.intro n0 (And.intro n1 (And.intro g0 g1))))
  clear hused
  obtain ⟨Aa, ca, rfl⟩ := h.ra.one
  obtain ⟨Ag, cg, rfl⟩ := h.rg.one
  obtain ⟨Ac, cc, rfl⟩ := h.rc.one
  have y0 : w.cell? ⟨g, 0, none⟩ = some (.slice Aa an.length ca) := (blk_cell h.box 0).trans rfl
  have y1 : w.cell? ⟨g, 1, none⟩ = some (.slice Ag gs.length cg) := (blk_cell h.box 1).trans rfl
  have y2 : w.cell? ⟨g, 2, none⟩ = some (.int .i64 na) := (blk_cell h.box 2).trans rfl
  have y3 : w.cell? ⟨g, 3, none⟩ = some (.int .i64 ng) := (blk_cell h.box 3).trans rfl
  have y4 : w.cell? ⟨g, 4, none⟩ = some (.slice Ac cs.length cc) := (blk_cell h.box 4).trans rfl
  have z0 := blk_frozen h.box 2
  have z1 := blk_frozen h.box 3
  have H := Aside0.mk h
  have HR := Aside0.mk hr
  have HG := Aside0.mk hg
  have HL := Aside0.mk hl
  have HC := Aside0.mk hcl
  have hnI : (an.length : Int) ≤ 140737488351232 := by omega
  have hgI : (gs.length : Int) ≤ 140737488351232 := by omega
  have w1 : wrap64 (na + a) = na + a := by unfold wrap64; omega
  have w2 : wrap64 (ng + b) = ng + b := by unfold wrap64; omega
  obtain ⟨hh1, hh2, hh3, hh4⟩ := hh
  have e0 : decide (a < 0) = false := decide_eq_false (by omega)
  have e1 : decide (b < 0) = false := decide_eq_false (by omega)
  have e2 : decide (a > (an.length : Int) - na) = false := decide_eq_false (by omega)
  have e3 : decide (b > (gs.length : Int) - ng) = false := decide_eq_false (by omega)
  have hu3 := Try.underlying72
  clear h hn hng hr hl hcl hg
  go_enter Try.func27, Try.ntmps27
  go_wp2
  go_quiet (fail)
  generalize hW : w.drewN nq = W0
  have HBW := Aside0.mk (show Below w.heap.size w W0 by rw [← hW]; exact pw_below_drewN (Below.refl _ _) _)
  have h0 := H.out.below HBW.out
  have y2 : W0.cell? ⟨g, 2, none⟩ = some (.int .i64 na) := (blk_cell h0.box 2).trans rfl
  have y3 : W0.cell? ⟨g, 3, none⟩ = some (.int .i64 ng) := (blk_cell h0.box 3).trans rfl
  have y4 : W0.cell? ⟨g, 4, none⟩ = some (.slice Ac cs.length cc) := (blk_cell h0.box 4).trans rfl
  have z0 := blk_frozen h0.box 2
  have z1 := blk_frozen h0.box 3
  have H0 := Aside0.mk h0
  have h2 := (h0.set_na (na + a)).set_ng (ng + b)
  have HR2 := (HR.out.move (W1 := W0) (fun k hk hlt => HBW.out.block k hlt) (fun k hk => HBW.out.block k (HR.out.lt k hk)))
  have far : ∀ k, k ≠ g → ((W0.setCell ⟨g, 2, none⟩ (.int .i64 (na + a))).setCell ⟨g, 3, none⟩ (.int .i64 (ng + b))).heap[k]? = W0.heap[k]? := fun k hk => (Below.heap_setCell _ ⟨g, 3, none⟩ _ k hk).trans (Below.heap_setCell _ ⟨g, 2, none⟩ _ k hk)
  have HR3 := HR2.move (W1 := (W0.setCell ⟨g, 2, none⟩ (.int .i64 (na + a))).setCell ⟨g, 3, none⟩ (.int .i64 (ng + b))) (fun k hk hlt => far k (by rintro rfl; have := (h0.tagged k (by rw [h0.gtag]; decide)).1; omega)) (fun k hk => far k (HG.out k hk))
  obtain ⟨news, hnl, hraw, hnf⟩ := HR3.raw
  obtain ⟨rows, hrl, hL, hf⟩ := h2.rc
  have H2 := Aside0.mk h2
  have T1 := Aside0.mk hraw
  have T2 := Aside0.mk hL
  have T3 := Aside0.mk hrl
  have T4 := Aside0.mk hf
  have T5 := Aside0.mk hnl
  have T6 := Aside0.mk hnf
  clear h0 h2 HR2 HR3 hraw hL hrl hf hnl hnf far hW
  go_wp2_with (first
    | (at_builtin
       refine loose_append rfl (.tmp 63) (.tmp 64) 72 164 (.agg #[.string ⟨#[]⟩, .slice none 0 0]) 2 40 rfl Try.underlying72 info164 rfl (by decide) (by decide) (.slice Ac cs.length cc) cs.length rows.flatten A l.length c news.flatten (by simp [Act.eval, Act.put]) (by simp [Act.eval, Act.put]) T2.out T1.out ?cL ?_
       case cL => have := HC.out; have := HL.out; omega
       intro v1 w3 h1 h2 h3
       obtain ⟨x2, y2, rfl⟩ : ∃ x2 y2, v1 = .slice x2 (cs.length + l.length) y2 := by
         rcases h1.2 with ⟨e, h0⟩ | ⟨gg, cap, cur, rfl, _⟩
         · exact ⟨none, 0, by rw [e, h0]⟩
         · exact ⟨_, _, rfl⟩
       have hbx : w3.heap[g]? = _ := (h2.block g (H2.out.tagged g (by rw [H2.out.gtag]; decide)).2 fun e => by have := H2.out.ct_ g e.symm; have := H2.out.gtag; omega).trans H2.out.box
       have a0 := (blk_cell hbx 4).trans rfl
       have b0 := blk_frozen hbx 4
       have G1 := Aside0.mk h1
       have G2 := Aside0.mk h2
       have G3 := Aside0.mk h3
       clear h1 h2 h3 hbx)
    | fail)
  go_ret
  have hR := Row.appended (d := k164) (e := 164) (xs := cs) (ys := l) (ok := fun k => k < base ∨ tag k = 3) T3.out T4.out T5.out (fun j x c hx hc => Kd.FK_mono (T6.out j x c hx hc) fun k hk => .inl hk) G1.out G2.out (fun k hk e => by
    have h2 := H2.out.ct_ k e.symm
    have h3 := H2.out.tagged k (by omega)
    rcases hk with hk | hk <;> omega)
  have fin := H2.out.set_c (Below.refl _ _) (hR.mono fun k hk => hk.imp id .inl) G2.out (fun b hb => by
    rcases G3.out with e | ⟨b', e, hle⟩
    · exact .inl (e.symm.trans hb)
    · rw [e] at hb
      injection hb with hb
      exact .inr (by omega))
  exact ⟨rfl, RsAfter.from_below H.out HBW.out (H0.out.set_na_after (na + a) ((H0.out.set_na (na + a)).set_ng_after (ng + b) fin))⟩
end
end Go.Proofs.Ytkpjdkmggbelfaa.Host
