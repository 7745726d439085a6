/- The walks of a queue's methods: New, Feed, Clear. -/
import Derived.Test.YtkpjdkmggbelfaaHostDrop
import Derived.Deep.RegionWith
import Derived.Outline
namespace Go.Proofs.Ytkpjdkmggbelfaa.Host
open Go.RowKit Go.Proofs.YtkpjdkmggbelfaaW.PrintWords Go.Proofs.YtkpjdkmggbelfaaW.PrintLast Go.Proofs.YtkpjdkmggbelfaaW.PrintMore Go.Proofs.Ytkpjdkmggbelfaa.Mem Go.Proofs.Ytkpjdkmggbelfaa.PHostPlays
set_option linter.unusedVariables false
set_option linter.unusedSimpArgs false
def NewQ (base : Nat) (w : World) (e : Ending) (w' : World) : Prop := ∃ g tag, e = .returned (.pointer (some ⟨g, 0, none⟩)) ∧ Qs base w' g tag [] [] [] (.slice none 0 0) (.slice none 0 0) (.slice none 0 0) ∧ w.heap.size ≤ g ∧ (∀ k, tag k ≠ 0 → w.heap.size ≤ k) ∧ Below w.heap.size w w'
theorem qs_new (base : Nat) (w : World) (h : base ≤ w.heap.size) : Qs base (w.alloc (.cells #[.slice none 0 0, .slice none 0 0, .slice none 0 0, .bool true] 103)) w.heap.size (fun k => if k = w.heap.size then 1 else 0) [] [] [] (.slice none 0 0) (.slice none 0 0) (.slice none 0 0) := by
  refine ⟨fun k hk => ?_, heap_alloc_new w _, by simp, (fun b hb => by cases hb), (fun b hb => by cases hb), (fun b hb => by cases hb), Row.nil _ _ _ _, Row.nil _ _ _ _, Row.nil _ _ _ _⟩
  by_cases e2 : k = w.heap.size
  · subst e2
    exact ⟨h, by rw [World.size_alloc]; omega⟩
  · simp [e2] at hk
theorem New_calls (base : Nat) (w : World) (h : base ≤ w.heap.size) : Calls Try.prog 23 #[] w (NewQ base w) := by
  have H := Aside0.mk h
  clear h
  go_enter Try.func23, Try.ntmps23
  go_wp2
  go_ret
  exact ⟨w.heap.size, fun k => if k = w.heap.size then 1 else 0, rfl, qs_new base w H.out, Nat.le_refl _, (fun k hk => by
    by_cases e2 : k = w.heap.size
    · omega
    · simp [e2] at hk), below_alloc (Below.refl _ _) _⟩
theorem QsAfter.step {base : Nat} {W W1 : World} {g : Nat} {tag : Nat → Nat} {an : List S109} {gs : List Bool} {cs : List S156} (h : QsAfter base W g tag an gs cs W1) :
    ∃ tag1 va1 vg1 vc1, Qs base W1 g tag1 an gs cs va1 vg1 vc1 ∧ (∀ {an gs cs W2}, QsAfter base W1 g tag1 an gs cs W2 → QsAfter base W g tag an gs cs W2) ∧ Below base W W1 ∧ (∀ k, k < W.heap.size → tag k = 0 → W1.heap[k]? = W.heap[k]? ∧ tag1 k = 0) := by
  obtain ⟨tag1, va1, vg1, vc1, h1, hk1, hb1, ht1, h31⟩ := h
  refine ⟨tag1, va1, vg1, vc1, h1, (fun {an gs cs W2} h2 => QsAfter.then_ hk1 hb1 ht1 h31 h2), hb1, fun k hk ht => ⟨hk1.2 k hk (fun hn => hn ht), Classical.byContradiction fun hn => ?_⟩⟩
  rcases ht1 k hn with h | h
  · exact h ht
  · omega
theorem QsAfter.from_below {base : Nat} {W W1 W2 : World} {g : Nat} {tag : Nat → Nat} {an0 an : List S109} {gs0 gs : List Bool} {cs0 cs : List S156} {va vg vc : Value} (h : Qs base W g tag an0 gs0 cs0 va vg vc) (hb : Below W.heap.size W W1) (h2 : QsAfter base W1 g tag an gs cs W2) : QsAfter base W g tag an gs cs W2 :=
  QsAfter.then_ (Kept.of_below hb _) (hb.mono h.low) (fun k hk => .inl hk) (fun k hk => ⟨hb.block k (h.tagged k (by omega)).2, hk⟩) h2
set_option maxRecDepth 100000 in
set_option maxHeartbeats 4000000 in
theorem Feed_calls (base : Nat) (w : World) (g : Nat) (tag : Nat → Nat) (an : List S109) (gs : List Bool) (cs : List S156) (va vg vc : Value) (h : Qs base w g tag an gs cs va vg vc) (A : Option Addr) (c : Nat) (l : List S109) (hn : an.length + l.length ≤ 4398046510976) (hl : l.length ≤ 4398046510976) (ha : Kd.F k109 w (fun k => k < w.heap.size ∧ tag k = 0) A l.length l) (hx : ∀ x ∈ l, x.f1.length ≤ 17592186043904)
    (A2 : Option Addr) (c2 : Nat) (l2 : List Bool) (hng : gs.length + l2.length ≤ 140737488351232) (hl2 : l2.length ≤ 140737488351232) (ha2 : Kd.F Kd.bool w (fun k => k < w.heap.size ∧ tag k = 0) A2 l2.length l2) :
    Calls Try.prog 24 #[.pointer (some ⟨g, 0, none⟩), .agg #[.slice A l.length c, .slice A2 l2.length c2]] w (QVoid base w g tag (an ++ l) (gs ++ l2) cs) := by
  have hb0 := below_alloc (Below.refl w.heap.size w) (.cells #[.slice A l.length c, .slice A2 l2.length c2] 77)
  have hw0 := heap_alloc_new w (.cells #[.slice A l.length c, .slice A2 l2.length c2] 77)
  have IS := Aside0.mk (is_box _ g va vg vc true (h.below hb0).box)
  have H := Aside0.mk h
  have HB0 := Aside0.mk hb0
  have F1 := Aside0.mk (feed_answers base (w.alloc (.cells #[.slice A l.length c, .slice A2 l2.length c2] 77)).drew g tag an gs cs va vg vc (h.below (below_drew hb0)) A c l hn hl (Kd.F_mono (Kd.F_step ha fun k hk hlt => hb0.block k hlt) fun k hk => ⟨by rw [World.size_drew, World.size_alloc]; omega, hk.2⟩) hx)
  have F2 := Aside0.mk (fun (W : World) (tg : Nat → Nat) (va vg vc : Value) (hW : ∀ k, k < w.heap.size → tag k = 0 → W.heap[k]? = w.heap[k]? ∧ tg k = 0) (hs : w.heap.size ≤ W.heap.size) (hq : Qs base W g tg (an ++ l) gs cs va vg vc) => feed_truths base W g tg (an ++ l) gs cs va vg vc hq A2 c2 l2 hng hl2 (Kd.F_mono (Kd.F_step ha2 fun k hk hlt => (hW k hk.1 hk.2).1) fun k hk => ⟨Nat.lt_of_lt_of_le hk.1 hs, (hW k hk.1 hk.2).2⟩))
  have c0 : (w.alloc (.cells #[.slice A l.length c, .slice A2 l2.length c2] 77)).cell? ⟨w.heap.size, 0, none⟩ = some (.slice A l.length c) := (blk_cell hw0 0).trans rfl
  have HW0 := Aside0.mk hw0
  clear h hn hng hl ha hx hl2 ha2 hb0 hw0
  go_enter Try.func24, Try.ntmps24
  go_wp2_with (first | (go_at_call 57; (with_reducible refine IS.out.mono ?_); rintro e w1 ⟨rfl, rfl⟩) | fail)
  have HBD := Aside0.mk ((below_drew HB0.out).mono H.out.low)
  have GT := Aside0.mk (fun (W : World) (hW : W.heap[w.heap.size]? = (w.alloc (.cells #[.slice A l.length c, .slice A2 l2.length c2] 77)).drew.heap[w.heap.size]?) => (blk_cell (hW.trans HW0.out) 1).trans (show _ = some (.slice A2 l2.length c2) from rfl))
  go_region_with (go_at_call 58; refine F1.out.mono ?_; rintro e w1 ⟨rfl, hq⟩; obtain ⟨tag1, va1, vg1, vc1, h1, th1, hb1, k1⟩ := hq.step; have H0 := Aside0.mk h1; have H1 := Aside0.mk (h1.below (below_drew (Below.refl _ _))); have TH := Aside0.mk (fun {an gs cs w2} h2 => @th1 an gs cs w2 h2); have HS1 := Aside0.mk (show w.heap.size ≤ w1.drew.heap.size from by have := hb1.size; rw [World.size_drew, World.size_alloc] at this; show w.heap.size ≤ w1.heap.size; omega); have KS1 := Aside0.mk (fun (k : Nat) (hk : k < w.heap.size) (ht : tag k = 0) => (show w1.drew.heap[k]? = w.heap[k]? ∧ tag1 k = 0 from by have e2 := k1 k (by rw [World.size_drew, World.size_alloc]; omega) ht; exact ⟨e2.1.trans (HB0.out.block k hk), e2.2⟩)); have c1 := GT.out _ (k1 w.heap.size (by rw [World.size_drew, World.size_alloc]; omega) (Classical.byContradiction fun hn => by have := (H.out.tagged _ hn).2; omega)).1; clear hq h1 th1 hb1 k1)
  go_wp2
  go_region_with (go_at_call 60; refine (F2.out _ tag1 va1 vg1 vc1 KS1.out HS1.out H1.out).mono ?_; rintro e w2 ⟨rfl, ha⟩; have HA := Aside0.mk ha; clear ha)
  go_wp2
  go_end0
  exact ⟨rfl, QsAfter.from_below H.out (below_drew HB0.out) (TH.out (QsAfter.from_below H0.out (below_drew (Below.refl _ _)) HA.out))⟩
theorem Clear_calls (base : Nat) (w : World) (g : Nat) (tag : Nat → Nat) (an : List S109) (gs : List Bool) (cs : List S156) (va vg vc : Value) (h : Qs base w g tag an gs cs va vg vc) : Calls Try.prog 29 #[.pointer (some ⟨g, 0, none⟩)] w (QVoid base w g tag an gs []) := by
  have IS := Aside0.mk (is_box _ g va vg vc true h.box)
  have x0 := (blk_cell h.box 2).trans rfl
  have x1 := blk_frozen h.box 2
  have H := Aside0.mk h
  clear h
  go_enter Try.func29, Try.ntmps29
  go_wp2_with (first | (go_at_call 57; (with_reducible refine IS.out.mono ?_); rintro e w1 ⟨rfl, rfl⟩) | fail)
  go_end0
  exact ⟨rfl, H.out.set_c (Below.refl _ _) (Row.nil _ _ _ _) ⟨rfl, rfl, rfl, Nat.le_refl _, fun _ _ _ => rfl⟩ (fun b hb => by cases hb)⟩
end Go.Proofs.Ytkpjdkmggbelfaa.Host
