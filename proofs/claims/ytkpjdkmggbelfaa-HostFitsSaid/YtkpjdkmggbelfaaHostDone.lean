/- The walk of a queue's method Done. -/
import Derived.Test.YtkpjdkmggbelfaaHostDoes
namespace Go.Proofs.Ytkpjdkmggbelfaa.Host
open Go.RowKit Go.Proofs.YtkpjdkmggbelfaaW.PrintWords Go.Proofs.YtkpjdkmggbelfaaW.PrintLast Go.Proofs.YtkpjdkmggbelfaaW.PrintMore Go.Proofs.Ytkpjdkmggbelfaa.Mem Go.Proofs.Ytkpjdkmggbelfaa.PHostPlays
set_option linter.unusedVariables false
set_option linter.unusedSimpArgs false
def QBool (base : Nat) (w : World) (g : Nat) (tag : Nat → Nat) (an : List S109) (gs : List Bool) (cs : List S156) (b : Bool) (e : Ending) (w' : World) : Prop := e = .returned (.bool b) ∧ QsAfter base w g tag an gs cs w'
section
variable (base : Nat) (w : World) (g : Nat) (tag : Nat → Nat) (an : List S109) (gs : List Bool) (cs : List S156) (va vg vc : Value) (h : Qs base w g tag an gs cs va vg vc) (k0 : Int) (A0 : Option Addr) (n0 c0 : Nat) (tr fu : Int) (a b : Int) (A : Option Addr) (c : Nat) (l : List S156)
include h
set_option maxRecDepth 100000 in
set_option maxHeartbeats 4000000 in
theorem done_no1 (ha : ¬ (0 ≤ a ∧ a ≤ (an.length : Int))) :
    Calls Try.prog 26 #[.pointer (some ⟨g, 0, none⟩), .agg #[.int .i64 k0, .slice A0 n0 c0, .int .i64 tr, .int .i64 fu, .int .i64 a, .int .i64 b, .slice A l.length c]] w (QBool base w g tag an gs cs false) := by
  obtain ⟨Aa, ca, rfl⟩ := h.ra.one
  have hb0 := below_alloc (Below.refl w.heap.size w) (.cells #[.int .i64 k0, .slice A0 n0 c0, .int .i64 tr, .int .i64 fu, .int .i64 a, .int .i64 b, .slice A l.length c] 82)
  have IS := Aside0.mk (fun W (hW : Below w.heap.size w W) => is_box W g _ _ _ true (h.below hW).box)
  have HS := Aside0.mk (fun W (hW : Below w.heap.size w W) => by
    have := has_answers W g Aa an.length ca ((blk_cell (h.below hW).box 0).trans rfl) a
    rw [decide_eq_false ha] at this
    exact this)
  have H := Aside0.mk h
  have HB0 := Aside0.mk hb0
  clear h hb0 ha
  go_enter Try.func26, Try.ntmps26
  go_wp2
  go_quiet (first
    | (go_at_call 57; exact Calls.quiet_of_same ((IS.out _ (pw_below_drewN HB0.out _)).mono fun _ _ hh => ⟨hh.1, hh.2.symm⟩))
    | (go_at_call 62; exact Calls.quiet_of_same ((HS.out _ (pw_below_drewN HB0.out _)).mono fun _ _ hh => ⟨hh.1, hh.2.symm⟩)))
  go_wp2
  go_ret
  exact ⟨rfl, QsAfter.same H.out (pw_below_drewN HB0.out _)⟩
set_option maxRecDepth 100000 in
set_option maxHeartbeats 4000000 in
theorem done_no2 (ha : 0 ≤ a ∧ a ≤ (an.length : Int)) (hbb : ¬ (0 ≤ b ∧ b ≤ (gs.length : Int))) :
    Calls Try.prog 26 #[.pointer (some ⟨g, 0, none⟩), .agg #[.int .i64 k0, .slice A0 n0 c0, .int .i64 tr, .int .i64 fu, .int .i64 a, .int .i64 b, .slice A l.length c]] w (QBool base w g tag an gs cs false) := by
  obtain ⟨Aa, ca, rfl⟩ := h.ra.one
  obtain ⟨Ag, cg, rfl⟩ := h.rg.one
  have hb0 := below_alloc (Below.refl w.heap.size w) (.cells #[.int .i64 k0, .slice A0 n0 c0, .int .i64 tr, .int .i64 fu, .int .i64 a, .int .i64 b, .slice A l.length c] 82)
  have IS := Aside0.mk (fun W (hW : Below w.heap.size w W) => is_box W g _ _ _ true (h.below hW).box)
  have HS := Aside0.mk (fun W (hW : Below w.heap.size w W) => by
    have := has_answers W g Aa an.length ca ((blk_cell (h.below hW).box 0).trans rfl) a
    rw [decide_eq_true ha] at this
    exact this)
  have HG := Aside0.mk (fun W (hW : Below w.heap.size w W) => by
    have := has_truths W g Ag gs.length cg ((blk_cell (h.below hW).box 1).trans rfl) b
    rw [decide_eq_false hbb] at this
    exact this)
  have H := Aside0.mk h
  have HB0 := Aside0.mk hb0
  clear h hb0 ha hbb
  go_enter Try.func26, Try.ntmps26
  go_wp2
  go_quiet (first
    | (go_at_call 57; exact Calls.quiet_of_same ((IS.out _ (pw_below_drewN HB0.out _)).mono fun _ _ hh => ⟨hh.1, hh.2.symm⟩))
    | (go_at_call 62; exact Calls.quiet_of_same ((HS.out _ (pw_below_drewN HB0.out _)).mono fun _ _ hh => ⟨hh.1, hh.2.symm⟩))
    | (go_at_call 63; exact Calls.quiet_of_same ((HG.out _ (pw_below_drewN HB0.out _)).mono fun _ _ hh => ⟨hh.1, hh.2.symm⟩)))
  go_wp2
  go_ret
  exact ⟨rfl, QsAfter.same H.out (pw_below_drewN HB0.out _)⟩
omit h
set_option maxRecDepth 100000 in
set_option maxHeartbeats 8000000 in
theorem done_yes (h : Qs base w g tag an gs cs va vg vc) (a b : Nat) (ha : a ≤ an.length) (hbb : b ≤ gs.length) (hn : an.length ≤ 4398046510976) (hng : gs.length ≤ 140737488351232) (hnc : cs.length ≤ 1500000000000) (hl : l.length ≤ 1500000000000) (hl0 : Kd.F k156 w (fun k => k < w.heap.size ∧ tag k = 0) A l.length l) (hx : ∀ x ∈ l, x.f1.length ≤ 17592186043904) :
    Calls Try.prog 26 #[.pointer (some ⟨g, 0, none⟩), .agg #[.int .i64 k0, .slice A0 n0 c0, .int .i64 tr, .int .i64 fu, .int .i64 (a : Int), .int .i64 (b : Int), .slice A l.length c]] w (QBool base w g tag (an.drop a) (gs.drop b) (cs ++ l) true) := by
  obtain ⟨Aa, ca, rfl⟩ := h.ra.one
  obtain ⟨Ag, cg, rfl⟩ := h.rg.one
  have hb0 := below_alloc (Below.refl w.heap.size w) (.cells #[.int .i64 k0, .slice A0 n0 c0, .int .i64 tr, .int .i64 fu, .int .i64 (a : Int), .int .i64 (b : Int), .slice A l.length c] 82)
  have hw0 := heap_alloc_new w (.cells #[.int .i64 k0, .slice A0 n0 c0, .int .i64 tr, .int .i64 fu, .int .i64 (a : Int), .int .i64 (b : Int), .slice A l.length c] 82)
  have IS := Aside0.mk (fun W (hW : Below w.heap.size w W) => is_box W g _ _ _ true (h.below hW).box)
  have HS := Aside0.mk (fun W (hW : Below w.heap.size w W) => by
    have := has_answers W g Aa an.length ca ((blk_cell (h.below hW).box 0).trans rfl) (a : Int)
    rw [decide_eq_true (by omega)] at this
    exact this)
  have HG := Aside0.mk (fun W (hW : Below w.heap.size w W) => by
    have := has_truths W g Ag gs.length cg ((blk_cell (h.below hW).box 1).trans rfl) (b : Int)
    rw [decide_eq_true (by omega)] at this
    exact this)
  have H := Aside0.mk h
  have HB0 := Aside0.mk hb0
  have HW0 := Aside0.mk hw0
  have CW := Aside0.mk (fun (W : World) (hW : W.heap[w.heap.size]? = some (.cells #[.int .i64 k0, .slice A0 n0 c0, .int .i64 tr, .int .i64 fu, .int .i64 (a : Int), .int .i64 (b : Int), .slice A l.length c] 82 (0, 0))) => (show W.cell? ⟨w.heap.size, 4, none⟩ = some (.int .i64 (a : Int)) ∧ W.cell? ⟨w.heap.size, 5, none⟩ = some (.int .i64 (b : Int)) ∧ W.cell? ⟨w.heap.size, 6, none⟩ = some (.slice A l.length c) from ⟨(blk_cell hW 4).trans rfl, (blk_cell hW 5).trans rfl, (blk_cell hW 6).trans rfl⟩))
  have D1 := Aside0.mk (fun (W : World) (hW : Below w.heap.size w W) => drop_answers base W g tag an gs cs _ _ vc (h.below hW) hn a ha)
  have D2 := Aside0.mk (fun (W : World) (tg : Nat → Nat) (va vg vc : Value) (hq : Qs base W g tg (an.drop a) gs cs va vg vc) => drop_truths base W g tg (an.drop a) gs cs va vg vc hq hng b hbb)
  have D3 := Aside0.mk (fun (W : World) (tg : Nat → Nat) (va vg vc : Value) (hW : ∀ k, k < w.heap.size → tag k = 0 → W.heap[k]? = w.heap[k]? ∧ tg k = 0) (hs : w.heap.size ≤ W.heap.size) (hq : Qs base W g tg (an.drop a) (gs.drop b) cs va vg vc) => feed_calls base W g tg (an.drop a) (gs.drop b) cs va vg vc hq hnc A c l hl (Kd.F_mono (Kd.F_step hl0 fun k hk _ => (hW k hk.1 hk.2).1) fun k hk => ⟨Nat.lt_of_lt_of_le hk.1 hs, (hW k hk.1 hk.2).2⟩) hx)
  have T0 := Aside0.mk (show tag w.heap.size = 0 from Classical.byContradiction fun hn => by have := (h.tagged _ hn).2; omega)
  obtain ⟨x4, x5, x6⟩ := CW.out _ hw0
  clear h hb0 hw0 ha hbb hn hng hnc hl hl0 hx
  go_enter Try.func26, Try.ntmps26
  go_wp2
  go_quiet (first
    | (go_at_call 57; exact Calls.quiet_of_same ((IS.out _ (pw_below_drewN HB0.out _)).mono fun _ _ hh => ⟨hh.1, hh.2.symm⟩))
    | (go_at_call 62; exact Calls.quiet_of_same ((HS.out _ (pw_below_drewN HB0.out _)).mono fun _ _ hh => ⟨hh.1, hh.2.symm⟩))
    | (go_at_call 63; exact Calls.quiet_of_same ((HG.out _ (pw_below_drewN HB0.out _)).mono fun _ _ hh => ⟨hh.1, hh.2.symm⟩)))
  go_wp2
  generalize hW0 : (w.alloc (.cells #[.int .i64 k0, .slice A0 n0 c0, .int .i64 tr, .int .i64 fu, .int .i64 (a : Int), .int .i64 (b : Int), .slice A l.length c] 82)).drewN nq = W0
  have hb00 : Below w.heap.size w W0 := by rw [← hW0]; exact pw_below_drewN HB0.out _
  have K00 : W0.heap[w.heap.size]? = some (.cells #[.int .i64 k0, .slice A0 n0 c0, .int .i64 tr, .int .i64 fu, .int .i64 (a : Int), .int .i64 (b : Int), .slice A l.length c] 82 (0, 0)) := by rw [← hW0]; exact HW0.out
  obtain ⟨y4, y5, y6⟩ := CW.out _ K00
  have HW00 := Aside0.mk hb00
  have HB0' := Aside0.mk (show Below base w W0.drew from (below_drew hb00).mono H.out.low)
  have K0 := Aside0.mk (show W0.drew.heap[w.heap.size]? = some (.cells #[.int .i64 k0, .slice A0 n0 c0, .int .i64 tr, .int .i64 fu, .int .i64 (a : Int), .int .i64 (b : Int), .slice A l.length c] 82 (0, 0)) from K00)
  have LT0 := Aside0.mk (show w.heap.size < W0.drew.heap.size from blk_lt K00)
  clear hb00 K00 hW0 HB0
  have HB0 := HB0'
  clear HB0' x4 x5 x6
  go_region_with (go_at_call 64; refine (D1.out _ (below_drew HW00.out)).mono ?_; rintro e w1 ⟨rfl, hq⟩; obtain ⟨tag1, va1, vg1, vc1, h1, th1, hb1, k1⟩ := hq.step; obtain ⟨kk, kt⟩ := k1 w.heap.size LT0.out T0.out; obtain ⟨y4, y5, y6⟩ := CW.out w1 (kk.trans K0.out); have H1 := Aside0.mk (h1.below (below_drew (Below.refl _ _))); have TH1 := Aside0.mk (fun {an gs cs W2} h2 => @th1 an gs cs W2 (QsAfter.from_below h1 (below_drew (Below.refl _ _)) h2)); have HB1 := Aside0.mk (below_drew (HB0.out.trans hb1)); have KS1 := Aside0.mk (fun (k : Nat) (hk : k < w.heap.size) (ht : tag k = 0) => (show w1.drew.heap[k]? = w.heap[k]? ∧ tag1 k = 0 from by have e1 := (show ∀ k, k < w.heap.size → tag k = 0 → W0.drew.heap[k]? = w.heap[k]? ∧ tag k = 0 from fun k hk ht => ⟨HW00.out.block k hk, ht⟩) k hk ht; have e2 := k1 k (by have := LT0.out; omega) e1.2; exact ⟨e2.1.trans e1.1, e2.2⟩)); have K1 := Aside0.mk (kk.trans K0.out); have T1 := Aside0.mk kt; have LT1 := Aside0.mk (show w.heap.size < w1.drew.heap.size from blk_lt K1.out); clear hq h1 th1 hb1 k1 kk kt)
  go_wp2
  go_region_with (go_at_call 65; refine (D2.out _ _ _ _ _ H1.out).mono ?_; rintro e w2 ⟨rfl, hq⟩; obtain ⟨tag2, va2, vg2, vc2, h1, th1, hb1, k1⟩ := hq.step; obtain ⟨kk, kt⟩ := k1 w.heap.size LT1.out T1.out; obtain ⟨y4, y5, y6⟩ := CW.out w2 (kk.trans K1.out); have H2 := Aside0.mk (h1.below (below_drew (Below.refl _ _))); have TH2 := Aside0.mk (fun {an gs cs W2} h2 => @th1 an gs cs W2 (QsAfter.from_below h1 (below_drew (Below.refl _ _)) h2)); have HB2 := Aside0.mk (below_drew (HB1.out.trans hb1)); have KS2 := Aside0.mk (fun (k : Nat) (hk : k < w.heap.size) (ht : tag k = 0) => (show w2.drew.heap[k]? = w.heap[k]? ∧ tag2 k = 0 from by have e1 := KS1.out k hk ht; have e2 := k1 k (by have := LT1.out; omega) e1.2; exact ⟨e2.1.trans e1.1, e2.2⟩)); have K2 := Aside0.mk (kk.trans K1.out); have T2 := Aside0.mk kt; have LT2 := Aside0.mk (show w.heap.size < w2.drew.heap.size from blk_lt K2.out); clear hq h1 th1 hb1 k1 kk kt)
  go_wp2
  go_region_with (go_at_call 66; refine (D3.out _ _ _ _ _ KS2.out (Nat.le_of_lt LT2.out) H2.out).mono ?_; rintro e w3 ⟨rfl, hq⟩; have HQ := Aside0.mk hq; clear hq)
  go_wp2
  go_ret
  exact ⟨rfl, QsAfter.from_below H.out (below_drew HW00.out) (TH1.out (TH2.out HQ.out))⟩
end
end Go.Proofs.Ytkpjdkmggbelfaa.Host
