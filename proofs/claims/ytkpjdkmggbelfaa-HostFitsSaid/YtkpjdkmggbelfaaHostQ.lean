/- A queue in memory: operand's and the reference's. -/
import Derived.Test.YtkpjdkmggbelfaaHostOwn
namespace Go.Proofs.Ytkpjdkmggbelfaa.Host
open Go.RowKit Go.Proofs.YtkpjdkmggbelfaaW.PrintWords Go.Proofs.YtkpjdkmggbelfaaW.PrintLast Go.Proofs.YtkpjdkmggbelfaaW.PrintMore Go.Proofs.Ytkpjdkmggbelfaa.Mem Go.Proofs.Ytkpjdkmggbelfaa.PHostPlays
set_option linter.unusedVariables false
set_option linter.unusedSimpArgs false
/-- What came in, and what is only read. -/
def Okk (base : Nat) (tag : Nat → Nat) (k : Nat) : Prop := k < base ∨ tag k = 3
theorem Row.bnd {α : Type} {d : Kd α} {e : Nat} {ok ok' : Nat → Prop} {W : World} {v : Value} {xs : List α} (h : Row d e W ok v xs) (hok : ∀ k, ok k → ok' k) : Row d e W ok' v xs := h.mono hok
structure Qs (base : Nat) (W : World) (g : Nat) (tag : Nat → Nat) (an : List S109) (gs : List Bool) (cs : List S156) (va vg vc : Value) : Prop where
  tagged : ∀ k, tag k ≠ 0 → base ≤ k ∧ k < W.heap.size
  box : W.heap[g]? = some (.cells #[va, vg, vc, .bool true] 103 (0, 0))
  gtag : tag g = 1
  at_ : ∀ b, va.ownBlock = some b → tag b = 2
  gt_ : ∀ b, vg.ownBlock = some b → tag b = 4
  ct_ : ∀ b, vc.ownBlock = some b → tag b = 5
  ra : Row k109 109 W (Okk base tag) va an
  rg : Row Kd.bool 4 W (Okk base tag) vg gs
  rc : Row k156 156 W (Okk base tag) vc cs
def QsAfter (base : Nat) (W : World) (g : Nat) (tag : Nat → Nat) (an : List S109) (gs : List Bool) (cs : List S156) (W' : World) : Prop :=
  ∃ tag' va vg vc, Qs base W' g tag' an gs cs va vg vc ∧ Kept W W' (fun k => tag k ≠ 0) ∧ Below base W W' ∧ (∀ k, tag' k ≠ 0 → tag k ≠ 0 ∨ W.heap.size ≤ k) ∧ ∀ k, tag k = 3 → W'.heap[k]? = W.heap[k]? ∧ tag' k = 3
section
variable {base : Nat} {W W1 W' Wb w2 : World} {g : Nat} {tag : Nat → Nat} {an an' : List S109} {gs gs' : List Bool} {cs cs' : List S156} {va vg vc v1 : Value}
theorem Qs.low (h : Qs base W g tag an gs cs va vg vc) : base ≤ W.heap.size := by
  have := h.tagged g (by rw [h.gtag]; decide)
  omega
theorem Qs.move (h : Qs base W g tag an gs cs va vg vc) (hs : W.heap.size ≤ W'.heap.size) (hb : ∀ k, k < base → W'.heap[k]? = W.heap[k]?) (hm : ∀ k, tag k ≠ 0 → W'.heap[k]? = W.heap[k]?) : Qs base W' g tag an gs cs va vg vc := by
  have hok : ∀ k, Okk base tag k → k < W.heap.size → W'.heap[k]? = W.heap[k]? := fun k hk _ => hk.elim (fun e => hb k e) fun e => hm k (by omega)
  exact ⟨fun k hk => ⟨(h.tagged k hk).1, Nat.lt_of_lt_of_le (h.tagged k hk).2 hs⟩, (hm g (by rw [h.gtag]; decide)).trans h.box, h.gtag, h.at_, h.gt_, h.ct_,
    h.ra.move hok fun k hk => hm k (by rw [h.at_ k hk]; decide), h.rg.move hok fun k hk => hm k (by rw [h.gt_ k hk]; decide), h.rc.move hok fun k hk => hm k (by rw [h.ct_ k hk]; decide)⟩
theorem Qs.below (h : Qs base W g tag an gs cs va vg vc) (hb : Below W.heap.size W W') : Qs base W' g tag an gs cs va vg vc :=
  h.move hb.size (fun k hk => hb.block k (Nat.lt_of_lt_of_le hk h.low)) fun k hk => hb.block k (h.tagged k hk).2
theorem QsAfter.same (h : Qs base W g tag an gs cs va vg vc) (hb : Below W.heap.size W W') : QsAfter base W g tag an gs cs W' :=
  ⟨tag, va, vg, vc, h.below hb, Kept.of_below hb _, hb.mono h.low, (fun k hk => .inl hk), fun k hk => ⟨hb.block k (h.tagged k (by omega)).2, hk⟩⟩
theorem QsAfter.then_ {W2 : World} {tag1 : Nat → Nat} (hk : Kept W W1 (fun k => tag k ≠ 0)) (hb : Below base W W1) (ht : ∀ k, tag1 k ≠ 0 → tag k ≠ 0 ∨ W.heap.size ≤ k)
    (h3 : ∀ k, tag k = 3 → W1.heap[k]? = W.heap[k]? ∧ tag1 k = 3) (h2 : QsAfter base W1 g tag1 an gs cs W2) : QsAfter base W g tag an gs cs W2 := by
  obtain ⟨tag2, va2, vg2, vc2, hs2, hk2, hb2, ht2, h4⟩ := h2
  refine ⟨tag2, va2, vg2, vc2, hs2, hk.then_ hk2 ht, hb.trans hb2, fun k hk3 => ?_, fun k hk3 => ?_⟩
  · rcases ht2 k hk3 with h | h
    · exact ht k h
    · exact .inr (Nat.le_trans hb.size h)
  · obtain ⟨a, b⟩ := h3 k hk3
    obtain ⟨c, d⟩ := h4 k b
    exact ⟨c.trans a, d⟩
theorem QsAfter.below {W2 : World} (h : QsAfter base W g tag an gs cs W1) (hb : Below W1.heap.size W1 W2) : QsAfter base W g tag an gs cs W2 := by
  obtain ⟨tag1, va1, vg1, vc1, h1, hk1, hb1, ht1, h31⟩ := h
  exact ⟨tag1, va1, vg1, vc1, h1.below hb, hk1.below hb, hb1.trans (hb.mono h1.low), ht1, fun k hk => ⟨(hb.block k (h1.tagged k (by rw [(h31 k hk).2]; decide)).2).trans (h31 k hk).1, (h31 k hk).2⟩⟩
/-- The row a is another. -/
theorem Qs.set_a (h : Qs base W g tag an gs cs va vg vc) (hb : Below W.heap.size W Wb) (hR : Row k109 109 w2 (fun k => k < base ∨ tag k = 3 ∨ W.heap.size ≤ k ∧ k < Wb.heap.size) v1 an') (hg : Wb.grownBy w2 va.ownBlock) (hat : ∀ b, v1.ownBlock = some b → va.ownBlock = some b ∨ Wb.heap.size ≤ b) :
    QsAfter base W g tag an' gs cs (w2.setCell ⟨g, 0, none⟩ v1) := by
  have hglt := (h.tagged g (by rw [h.gtag]; decide)).2
  have hgb := (h.tagged g (by rw [h.gtag]; decide)).1
  have hle : W.heap.size ≤ Wb.heap.size := hb.size
  have hle2 := hg.size
  have hsz : (w2.setCell ⟨g, 0, none⟩ v1).heap.size = w2.heap.size := by simp [World.setCell]
  have far : ∀ k, k ≠ g → (w2.setCell ⟨g, 0, none⟩ v1).heap[k]? = w2.heap[k]? := fun k hk => Below.heap_setCell w2 ⟨g, 0, none⟩ v1 k hk
  have old : ∀ k, k < W.heap.size → tag k ≠ 2 → k ≠ g → (w2.setCell ⟨g, 0, none⟩ v1).heap[k]? = W.heap[k]? := fun k hk h7 h8 =>
    ((far k h8).trans (hg.block k (by omega) fun e => h7 (h.at_ k e.symm))).trans (hb.block k hk)
  have v1k : ∀ k, v1.ownBlock = some k → tag k = 2 ∨ Wb.heap.size ≤ k := fun k hk => (hat k hk).imp (fun e => h.at_ k e) id
  have v1ne : ∀ k, v1.ownBlock = some k → k ≠ g := by
    rintro k hk rfl
    have := h.gtag
    rcases v1k k hk with h | h <;> omega
  obtain ⟨tg, htg⟩ : ∃ tg : Nat → Nat, tg = fun k => if v1.ownBlock = some k then 2 else if W.heap.size ≤ k ∧ k < Wb.heap.size then 3 else tag k := ⟨_, rfl⟩
  have told : ∀ k, k < W.heap.size → tg k = tag k := by
    intro k hk
    rw [htg]
    by_cases e2 : v1.ownBlock = some k
    · simp only [if_pos e2]
      rcases v1k k e2 with h | h <;> omega
    · simp only [if_neg e2]
      exact if_neg (by omega)
  have okup : ∀ k, (k < base ∨ tag k = 3 ∨ W.heap.size ≤ k ∧ k < Wb.heap.size) → Okk base tg k := by
    intro k hk
    rcases hk with hk | hk | hk
    · exact .inl hk
    · exact .inr (by rw [told k (h.tagged k (by omega)).2]; exact hk)
    · refine .inr ?_
      rw [htg]
      have e2 : ¬ v1.ownBlock = some k := fun e2 => by
        rcases v1k k e2 with h' | h'
        · have := (h.tagged k (by omega)).2; omega
        · omega
      simp only [if_neg e2]
      exact if_pos hk
  have gne : ∀ k, Okk base tg k → k ≠ g := by
    rintro k hk rfl
    rcases hk with hk | hk
    · omega
    · rw [told k hglt, h.gtag] at hk
      omega
  have okold : ∀ k, Okk base tag k → k < W.heap.size → (w2.setCell ⟨g, 0, none⟩ v1).heap[k]? = W.heap[k]? := by
    intro k hk hlt
    refine old k hlt (fun e => ?_) (fun e => ?_)
    · rcases hk with hk | hk
      · have := (h.tagged k (by omega)).1; omega
      · omega
    · subst e
      rcases hk with hk | hk
      · omega
      · rw [h.gtag] at hk; omega
  have okb : ∀ k, Okk base tag k → Okk base tg k := fun k hk => okup k (hk.imp id .inl)
  refine ⟨tg, v1, vg, vc, ⟨?_, ?_, ?_, ?_, ?_, ?_, ?_, ?_, ?_⟩, ?_, ?_, ?_, ?_⟩
  · intro k hk
    rw [hsz]
    by_cases e2 : v1.ownBlock = some k
    · refine ⟨?_, hR.lt k e2⟩
      rcases v1k k e2 with h' | h'
      · exact (h.tagged k (by omega)).1
      · omega
    · rw [htg] at hk
      simp only [if_neg e2] at hk
      by_cases e3 : W.heap.size ≤ k ∧ k < Wb.heap.size
      · omega
      · rw [if_neg e3] at hk
        exact ⟨(h.tagged k hk).1, by have := (h.tagged k hk).2; omega⟩
  · have hbox : w2.heap[g]? = _ := ((hg.block g (by omega) fun e => by have := h.at_ g e.symm; have := h.gtag; omega).trans (hb.block g hglt)).trans h.box
    exact blk_set hbox 0 v1
  · rw [told g hglt]; exact h.gtag
  · exact fun b hb => by rw [htg]; exact if_pos hb
  · exact fun b hb => by rw [told b (h.tagged b (by rw [h.gt_ b hb]; decide)).2]; exact h.gt_ b hb
  · exact fun b hb => by rw [told b (h.tagged b (by rw [h.ct_ b hb]; decide)).2]; exact h.ct_ b hb
  · exact (hR.mono okup).move (fun k hk hlt => far k (gne k hk)) fun k hk => far k (v1ne k hk)
  · exact ((h.rg.move (W1 := w2.setCell ⟨g, 0, none⟩ v1) (fun k hk hlt => okold k hk hlt) fun k hk => old k (h.tagged k (by rw [h.gt_ k hk]; decide)).2 (by rw [h.gt_ k hk]; decide) (by rintro rfl; have := h.gt_ k hk; have := h.gtag; omega))).bnd okb
  · exact ((h.rc.move (W1 := w2.setCell ⟨g, 0, none⟩ v1) (fun k hk hlt => okold k hk hlt) fun k hk => old k (h.tagged k (by rw [h.ct_ k hk]; decide)).2 (by rw [h.ct_ k hk]; decide) (by rintro rfl; have := h.ct_ k hk; have := h.gtag; omega))).bnd okb
  · refine Kept.setCell ?_ (.inl (by show tag g ≠ 0; rw [h.gtag]; decide)) _
    refine Kept.of_grown hg ((Kept.refl W _).below hb) fun k hk => .inl ?_
    have := h.at_ k hk
    omega
  · exact (((hb.mono h.low).trans ((Below.refl base Wb).grown hg (by have := h.low; omega) fun k hk => (h.tagged k (by rw [h.at_ k hk]; decide)).1))).setCell hgb _
  · intro k hk
    by_cases e2 : k < W.heap.size
    · rw [told k e2] at hk
      exact .inl hk
    · exact .inr (by omega)
  · exact fun k hk => ⟨old k (h.tagged k (by omega)).2 (by omega) (by rintro rfl; have := h.gtag; omega), by rw [told k (h.tagged k (by omega)).2]; exact hk⟩
/-- The row g is another. -/
theorem Qs.set_g (h : Qs base W g tag an gs cs va vg vc) (hb : Below W.heap.size W Wb) (hR : Row Kd.bool 4 w2 (fun k => k < base ∨ tag k = 3 ∨ W.heap.size ≤ k ∧ k < Wb.heap.size) v1 gs') (hg : Wb.grownBy w2 vg.ownBlock) (hat : ∀ b, v1.ownBlock = some b → vg.ownBlock = some b ∨ Wb.heap.size ≤ b) :
    QsAfter base W g tag an gs' cs (w2.setCell ⟨g, 1, none⟩ v1) := by
  have hglt := (h.tagged g (by rw [h.gtag]; decide)).2
  have hgb := (h.tagged g (by rw [h.gtag]; decide)).1
  have hle : W.heap.size ≤ Wb.heap.size := hb.size
  have hle2 := hg.size
  have hsz : (w2.setCell ⟨g, 1, none⟩ v1).heap.size = w2.heap.size := by simp [World.setCell]
  have far : ∀ k, k ≠ g → (w2.setCell ⟨g, 1, none⟩ v1).heap[k]? = w2.heap[k]? := fun k hk => Below.heap_setCell w2 ⟨g, 1, none⟩ v1 k hk
  have old : ∀ k, k < W.heap.size → tag k ≠ 4 → k ≠ g → (w2.setCell ⟨g, 1, none⟩ v1).heap[k]? = W.heap[k]? := fun k hk h7 h8 =>
    ((far k h8).trans (hg.block k (by omega) fun e => h7 (h.gt_ k e.symm))).trans (hb.block k hk)
  have v1k : ∀ k, v1.ownBlock = some k → tag k = 4 ∨ Wb.heap.size ≤ k := fun k hk => (hat k hk).imp (fun e => h.gt_ k e) id
  have v1ne : ∀ k, v1.ownBlock = some k → k ≠ g := by
    rintro k hk rfl
    have := h.gtag
    rcases v1k k hk with h | h <;> omega
  obtain ⟨tg, htg⟩ : ∃ tg : Nat → Nat, tg = fun k => if v1.ownBlock = some k then 4 else if W.heap.size ≤ k ∧ k < Wb.heap.size then 3 else tag k := ⟨_, rfl⟩
  have told : ∀ k, k < W.heap.size → tg k = tag k := by
    intro k hk
    rw [htg]
    by_cases e2 : v1.ownBlock = some k
    · simp only [if_pos e2]
      rcases v1k k e2 with h | h <;> omega
    · simp only [if_neg e2]
      exact if_neg (by omega)
  have okup : ∀ k, (k < base ∨ tag k = 3 ∨ W.heap.size ≤ k ∧ k < Wb.heap.size) → Okk base tg k := by
    intro k hk
    rcases hk with hk | hk | hk
    · exact .inl hk
    · exact .inr (by rw [told k (h.tagged k (by omega)).2]; exact hk)
    · refine .inr ?_
      rw [htg]
      have e2 : ¬ v1.ownBlock = some k := fun e2 => by
        rcases v1k k e2 with h' | h'
        · have := (h.tagged k (by omega)).2; omega
        · omega
      simp only [if_neg e2]
      exact if_pos hk
  have gne : ∀ k, Okk base tg k → k ≠ g := by
    rintro k hk rfl
    rcases hk with hk | hk
    · omega
    · rw [told k hglt, h.gtag] at hk
      omega
  have okold : ∀ k, Okk base tag k → k < W.heap.size → (w2.setCell ⟨g, 1, none⟩ v1).heap[k]? = W.heap[k]? := by
    intro k hk hlt
    refine old k hlt (fun e => ?_) (fun e => ?_)
    · rcases hk with hk | hk
      · have := (h.tagged k (by omega)).1; omega
      · omega
    · subst e
      rcases hk with hk | hk
      · omega
      · rw [h.gtag] at hk; omega
  have okb : ∀ k, Okk base tag k → Okk base tg k := fun k hk => okup k (hk.imp id .inl)
  refine ⟨tg, va, v1, vc, ⟨?_, ?_, ?_, ?_, ?_, ?_, ?_, ?_, ?_⟩, ?_, ?_, ?_, ?_⟩
  · intro k hk
    rw [hsz]
    by_cases e2 : v1.ownBlock = some k
    · refine ⟨?_, hR.lt k e2⟩
      rcases v1k k e2 with h' | h'
      · exact (h.tagged k (by omega)).1
      · omega
    · rw [htg] at hk
      simp only [if_neg e2] at hk
      by_cases e3 : W.heap.size ≤ k ∧ k < Wb.heap.size
      · omega
      · rw [if_neg e3] at hk
        exact ⟨(h.tagged k hk).1, by have := (h.tagged k hk).2; omega⟩
  · have hbox : w2.heap[g]? = _ := ((hg.block g (by omega) fun e => by have := h.gt_ g e.symm; have := h.gtag; omega).trans (hb.block g hglt)).trans h.box
    exact blk_set hbox 1 v1
  · rw [told g hglt]; exact h.gtag
  · exact fun b hb => by rw [told b (h.tagged b (by rw [h.at_ b hb]; decide)).2]; exact h.at_ b hb
  · exact fun b hb => by rw [htg]; exact if_pos hb
  · exact fun b hb => by rw [told b (h.tagged b (by rw [h.ct_ b hb]; decide)).2]; exact h.ct_ b hb
  · exact ((h.ra.move (W1 := w2.setCell ⟨g, 1, none⟩ v1) (fun k hk hlt => okold k hk hlt) fun k hk => old k (h.tagged k (by rw [h.at_ k hk]; decide)).2 (by rw [h.at_ k hk]; decide) (by rintro rfl; have := h.at_ k hk; have := h.gtag; omega))).bnd okb
  · exact (hR.mono okup).move (fun k hk hlt => far k (gne k hk)) fun k hk => far k (v1ne k hk)
  · exact ((h.rc.move (W1 := w2.setCell ⟨g, 1, none⟩ v1) (fun k hk hlt => okold k hk hlt) fun k hk => old k (h.tagged k (by rw [h.ct_ k hk]; decide)).2 (by rw [h.ct_ k hk]; decide) (by rintro rfl; have := h.ct_ k hk; have := h.gtag; omega))).bnd okb
  · refine Kept.setCell ?_ (.inl (by show tag g ≠ 0; rw [h.gtag]; decide)) _
    refine Kept.of_grown hg ((Kept.refl W _).below hb) fun k hk => .inl ?_
    have := h.gt_ k hk
    omega
  · exact (((hb.mono h.low).trans ((Below.refl base Wb).grown hg (by have := h.low; omega) fun k hk => (h.tagged k (by rw [h.gt_ k hk]; decide)).1))).setCell hgb _
  · intro k hk
    by_cases e2 : k < W.heap.size
    · rw [told k e2] at hk
      exact .inl hk
    · exact .inr (by omega)
  · exact fun k hk => ⟨old k (h.tagged k (by omega)).2 (by omega) (by rintro rfl; have := h.gtag; omega), by rw [told k (h.tagged k (by omega)).2]; exact hk⟩
/-- The row c is another. -/
theorem Qs.set_c (h : Qs base W g tag an gs cs va vg vc) (hb : Below W.heap.size W Wb) (hR : Row k156 156 w2 (fun k => k < base ∨ tag k = 3 ∨ W.heap.size ≤ k ∧ k < Wb.heap.size) v1 cs') (hg : Wb.grownBy w2 vc.ownBlock) (hat : ∀ b, v1.ownBlock = some b → vc.ownBlock = some b ∨ Wb.heap.size ≤ b) :
    QsAfter base W g tag an gs cs' (w2.setCell ⟨g, 2, none⟩ v1) := by
  have hglt := (h.tagged g (by rw [h.gtag]; decide)).2
  have hgb := (h.tagged g (by rw [h.gtag]; decide)).1
  have hle : W.heap.size ≤ Wb.heap.size := hb.size
  have hle2 := hg.size
  have hsz : (w2.setCell ⟨g, 2, none⟩ v1).heap.size = w2.heap.size := by simp [World.setCell]
  have far : ∀ k, k ≠ g → (w2.setCell ⟨g, 2, none⟩ v1).heap[k]? = w2.heap[k]? := fun k hk => Below.heap_setCell w2 ⟨g, 2, none⟩ v1 k hk
  have old : ∀ k, k < W.heap.size → tag k ≠ 5 → k ≠ g → (w2.setCell ⟨g, 2, none⟩ v1).heap[k]? = W.heap[k]? := fun k hk h7 h8 =>
    ((far k h8).trans (hg.block k (by omega) fun e => h7 (h.ct_ k e.symm))).trans (hb.block k hk)
  have v1k : ∀ k, v1.ownBlock = some k → tag k = 5 ∨ Wb.heap.size ≤ k := fun k hk => (hat k hk).imp (fun e => h.ct_ k e) id
  have v1ne : ∀ k, v1.ownBlock = some k → k ≠ g := by
    rintro k hk rfl
    have := h.gtag
    rcases v1k k hk with h | h <;> omega
  obtain ⟨tg, htg⟩ : ∃ tg : Nat → Nat, tg = fun k => if v1.ownBlock = some k then 5 else if W.heap.size ≤ k ∧ k < Wb.heap.size then 3 else tag k := ⟨_, rfl⟩
  have told : ∀ k, k < W.heap.size → tg k = tag k := by
    intro k hk
    rw [htg]
    by_cases e2 : v1.ownBlock = some k
    · simp only [if_pos e2]
      rcases v1k k e2 with h | h <;> omega
    · simp only [if_neg e2]
      exact if_neg (by omega)
  have okup : ∀ k, (k < base ∨ tag k = 3 ∨ W.heap.size ≤ k ∧ k < Wb.heap.size) → Okk base tg k := by
    intro k hk
    rcases hk with hk | hk | hk
    · exact .inl hk
    · exact .inr (by rw [told k (h.tagged k (by omega)).2]; exact hk)
    · refine .inr ?_
      rw [htg]
      have e2 : ¬ v1.ownBlock = some k := fun e2 => by
        rcases v1k k e2 with h' | h'
        · have := (h.tagged k (by omega)).2; omega
        · omega
      simp only [if_neg e2]
      exact if_pos hk
  have gne : ∀ k, Okk base tg k → k ≠ g := by
    rintro k hk rfl
    rcases hk with hk | hk
    · omega
    · rw [told k hglt, h.gtag] at hk
      omega
  have okold : ∀ k, Okk base tag k → k < W.heap.size → (w2.setCell ⟨g, 2, none⟩ v1).heap[k]? = W.heap[k]? := by
    intro k hk hlt
    refine old k hlt (fun e => ?_) (fun e => ?_)
    · rcases hk with hk | hk
      · have := (h.tagged k (by omega)).1; omega
      · omega
    · subst e
      rcases hk with hk | hk
      · omega
      · rw [h.gtag] at hk; omega
  have okb : ∀ k, Okk base tag k → Okk base tg k := fun k hk => okup k (hk.imp id .inl)
  refine ⟨tg, va, vg, v1, ⟨?_, ?_, ?_, ?_, ?_, ?_, ?_, ?_, ?_⟩, ?_, ?_, ?_, ?_⟩
  · intro k hk
    rw [hsz]
    by_cases e2 : v1.ownBlock = some k
    · refine ⟨?_, hR.lt k e2⟩
      rcases v1k k e2 with h' | h'
      · exact (h.tagged k (by omega)).1
      · omega
    · rw [htg] at hk
      simp only [if_neg e2] at hk
      by_cases e3 : W.heap.size ≤ k ∧ k < Wb.heap.size
      · omega
      · rw [if_neg e3] at hk
        exact ⟨(h.tagged k hk).1, by have := (h.tagged k hk).2; omega⟩
  · have hbox : w2.heap[g]? = _ := ((hg.block g (by omega) fun e => by have := h.ct_ g e.symm; have := h.gtag; omega).trans (hb.block g hglt)).trans h.box
    exact blk_set hbox 2 v1
  · rw [told g hglt]; exact h.gtag
  · exact fun b hb => by rw [told b (h.tagged b (by rw [h.at_ b hb]; decide)).2]; exact h.at_ b hb
  · exact fun b hb => by rw [told b (h.tagged b (by rw [h.gt_ b hb]; decide)).2]; exact h.gt_ b hb
  · exact fun b hb => by rw [htg]; exact if_pos hb
  · exact ((h.ra.move (W1 := w2.setCell ⟨g, 2, none⟩ v1) (fun k hk hlt => okold k hk hlt) fun k hk => old k (h.tagged k (by rw [h.at_ k hk]; decide)).2 (by rw [h.at_ k hk]; decide) (by rintro rfl; have := h.at_ k hk; have := h.gtag; omega))).bnd okb
  · exact ((h.rg.move (W1 := w2.setCell ⟨g, 2, none⟩ v1) (fun k hk hlt => okold k hk hlt) fun k hk => old k (h.tagged k (by rw [h.gt_ k hk]; decide)).2 (by rw [h.gt_ k hk]; decide) (by rintro rfl; have := h.gt_ k hk; have := h.gtag; omega))).bnd okb
  · exact (hR.mono okup).move (fun k hk hlt => far k (gne k hk)) fun k hk => far k (v1ne k hk)
  · refine Kept.setCell ?_ (.inl (by show tag g ≠ 0; rw [h.gtag]; decide)) _
    refine Kept.of_grown hg ((Kept.refl W _).below hb) fun k hk => .inl ?_
    have := h.ct_ k hk
    omega
  · exact (((hb.mono h.low).trans ((Below.refl base Wb).grown hg (by have := h.low; omega) fun k hk => (h.tagged k (by rw [h.ct_ k hk]; decide)).1))).setCell hgb _
  · intro k hk
    by_cases e2 : k < W.heap.size
    · rw [told k e2] at hk
      exact .inl hk
    · exact .inr (by omega)
  · exact fun k hk => ⟨old k (h.tagged k (by omega)).2 (by omega) (by rintro rfl; have := h.gtag; omega), by rw [told k (h.tagged k (by omega)).2]; exact hk⟩
end
structure Rs (base : Nat) (W : World) (g : Nat) (tag : Nat → Nat) (an : List S112) (gs : List Bool) (cs : List S164) (va vg vc : Value) (na ng : Int) : Prop where
  tagged : ∀ k, tag k ≠ 0 → base ≤ k ∧ k < W.heap.size
  box : W.heap[g]? = some (.cells #[va, vg, .int .i64 na, .int .i64 ng, vc] 74 (0, 0))
  gtag : tag g = 1
  at_ : ∀ b, va.ownBlock = some b → tag b = 2
  gt_ : ∀ b, vg.ownBlock = some b → tag b = 4
  ct_ : ∀ b, vc.ownBlock = some b → tag b = 5
  ra : Row k112 112 W (Okk base tag) va an
  rg : Row Kd.bool 4 W (Okk base tag) vg gs
  rc : Row k164 164 W (Okk base tag) vc cs
def RsAfter (base : Nat) (W : World) (g : Nat) (tag : Nat → Nat) (an : List S112) (gs : List Bool) (cs : List S164) (na ng : Int) (W' : World) : Prop :=
  ∃ tag' va vg vc, Rs base W' g tag' an gs cs va vg vc na ng ∧ Kept W W' (fun k => tag k ≠ 0) ∧ Below base W W' ∧ (∀ k, tag' k ≠ 0 → tag k ≠ 0 ∨ W.heap.size ≤ k) ∧ ∀ k, tag k = 3 → W'.heap[k]? = W.heap[k]? ∧ tag' k = 3
section
variable {base : Nat} {W W1 W' Wb w2 : World} {g : Nat} {tag : Nat → Nat} {an an' : List S112} {gs gs' : List Bool} {cs cs' : List S164} {va vg vc v1 : Value} {na ng : Int}
theorem Rs.low (h : Rs base W g tag an gs cs va vg vc na ng) : base ≤ W.heap.size := by
  have := h.tagged g (by rw [h.gtag]; decide)
  omega
theorem Rs.move (h : Rs base W g tag an gs cs va vg vc na ng) (hs : W.heap.size ≤ W'.heap.size) (hb : ∀ k, k < base → W'.heap[k]? = W.heap[k]?) (hm : ∀ k, tag k ≠ 0 → W'.heap[k]? = W.heap[k]?) : Rs base W' g tag an gs cs va vg vc na ng := by
  have hok : ∀ k, Okk base tag k → k < W.heap.size → W'.heap[k]? = W.heap[k]? := fun k hk _ => hk.elim (fun e => hb k e) fun e => hm k (by omega)
  exact ⟨fun k hk => ⟨(h.tagged k hk).1, Nat.lt_of_lt_of_le (h.tagged k hk).2 hs⟩, (hm g (by rw [h.gtag]; decide)).trans h.box, h.gtag, h.at_, h.gt_, h.ct_,
    h.ra.move hok fun k hk => hm k (by rw [h.at_ k hk]; decide), h.rg.move hok fun k hk => hm k (by rw [h.gt_ k hk]; decide), h.rc.move hok fun k hk => hm k (by rw [h.ct_ k hk]; decide)⟩
theorem Rs.below (h : Rs base W g tag an gs cs va vg vc na ng) (hb : Below W.heap.size W W') : Rs base W' g tag an gs cs va vg vc na ng :=
  h.move hb.size (fun k hk => hb.block k (Nat.lt_of_lt_of_le hk h.low)) fun k hk => hb.block k (h.tagged k hk).2
theorem RsAfter.same (h : Rs base W g tag an gs cs va vg vc na ng) (hb : Below W.heap.size W W') : RsAfter base W g tag an gs cs na ng W' :=
  ⟨tag, va, vg, vc, h.below hb, Kept.of_below hb _, hb.mono h.low, (fun k hk => .inl hk), fun k hk => ⟨hb.block k (h.tagged k (by omega)).2, hk⟩⟩
theorem RsAfter.then_ {W2 : World} {tag1 : Nat → Nat} (hk : Kept W W1 (fun k => tag k ≠ 0)) (hb : Below base W W1) (ht : ∀ k, tag1 k ≠ 0 → tag k ≠ 0 ∨ W.heap.size ≤ k)
    (h3 : ∀ k, tag k = 3 → W1.heap[k]? = W.heap[k]? ∧ tag1 k = 3) (h2 : RsAfter base W1 g tag1 an gs cs na ng W2) : RsAfter base W g tag an gs cs na ng W2 := by
  obtain ⟨tag2, va2, vg2, vc2, hs2, hk2, hb2, ht2, h4⟩ := h2
  refine ⟨tag2, va2, vg2, vc2, hs2, hk.then_ hk2 ht, hb.trans hb2, fun k hk3 => ?_, fun k hk3 => ?_⟩
  · rcases ht2 k hk3 with h | h
    · exact ht k h
    · exact .inr (Nat.le_trans hb.size h)
  · obtain ⟨a, b⟩ := h3 k hk3
    obtain ⟨c, d⟩ := h4 k b
    exact ⟨c.trans a, d⟩
theorem RsAfter.below {W2 : World} (h : RsAfter base W g tag an gs cs na ng W1) (hb : Below W1.heap.size W1 W2) : RsAfter base W g tag an gs cs na ng W2 := by
  obtain ⟨tag1, va1, vg1, vc1, h1, hk1, hb1, ht1, h31⟩ := h
  exact ⟨tag1, va1, vg1, vc1, h1.below hb, hk1.below hb, hb1.trans (hb.mono h1.low), ht1, fun k hk => ⟨(hb.block k (h1.tagged k (by rw [(h31 k hk).2]; decide)).2).trans (h31 k hk).1, (h31 k hk).2⟩⟩
/-- The row a is another. -/
theorem Rs.set_a (h : Rs base W g tag an gs cs va vg vc na ng) (hb : Below W.heap.size W Wb) (hR : Row k112 112 w2 (fun k => k < base ∨ tag k = 3 ∨ W.heap.size ≤ k ∧ k < Wb.heap.size) v1 an') (hg : Wb.grownBy w2 va.ownBlock) (hat : ∀ b, v1.ownBlock = some b → va.ownBlock = some b ∨ Wb.heap.size ≤ b) :
    RsAfter base W g tag an' gs cs na ng (w2.setCell ⟨g, 0, none⟩ v1) := by
  have hglt := (h.tagged g (by rw [h.gtag]; decide)).2
  have hgb := (h.tagged g (by rw [h.gtag]; decide)).1
  have hle : W.heap.size ≤ Wb.heap.size := hb.size
  have hle2 := hg.size
  have hsz : (w2.setCell ⟨g, 0, none⟩ v1).heap.size = w2.heap.size := by simp [World.setCell]
  have far : ∀ k, k ≠ g → (w2.setCell ⟨g, 0, none⟩ v1).heap[k]? = w2.heap[k]? := fun k hk => Below.heap_setCell w2 ⟨g, 0, none⟩ v1 k hk
  have old : ∀ k, k < W.heap.size → tag k ≠ 2 → k ≠ g → (w2.setCell ⟨g, 0, none⟩ v1).heap[k]? = W.heap[k]? := fun k hk h7 h8 =>
    ((far k h8).trans (hg.block k (by omega) fun e => h7 (h.at_ k e.symm))).trans (hb.block k hk)
  have v1k : ∀ k, v1.ownBlock = some k → tag k = 2 ∨ Wb.heap.size ≤ k := fun k hk => (hat k hk).imp (fun e => h.at_ k e) id
  have v1ne : ∀ k, v1.ownBlock = some k → k ≠ g := by
    rintro k hk rfl
    have := h.gtag
    rcases v1k k hk with h | h <;> omega
  obtain ⟨tg, htg⟩ : ∃ tg : Nat → Nat, tg = fun k => if v1.ownBlock = some k then 2 else if W.heap.size ≤ k ∧ k < Wb.heap.size then 3 else tag k := ⟨_, rfl⟩
  have told : ∀ k, k < W.heap.size → tg k = tag k := by
    intro k hk
    rw [htg]
    by_cases e2 : v1.ownBlock = some k
    · simp only [if_pos e2]
      rcases v1k k e2 with h | h <;> omega
    · simp only [if_neg e2]
      exact if_neg (by omega)
  have okup : ∀ k, (k < base ∨ tag k = 3 ∨ W.heap.size ≤ k ∧ k < Wb.heap.size) → Okk base tg k := by
    intro k hk
    rcases hk with hk | hk | hk
    · exact .inl hk
    · exact .inr (by rw [told k (h.tagged k (by omega)).2]; exact hk)
    · refine .inr ?_
      rw [htg]
      have e2 : ¬ v1.ownBlock = some k := fun e2 => by
        rcases v1k k e2 with h' | h'
        · have := (h.tagged k (by omega)).2; omega
        · omega
      simp only [if_neg e2]
      exact if_pos hk
  have gne : ∀ k, Okk base tg k → k ≠ g := by
    rintro k hk rfl
    rcases hk with hk | hk
    · omega
    · rw [told k hglt, h.gtag] at hk
      omega
  have okold : ∀ k, Okk base tag k → k < W.heap.size → (w2.setCell ⟨g, 0, none⟩ v1).heap[k]? = W.heap[k]? := by
    intro k hk hlt
    refine old k hlt (fun e => ?_) (fun e => ?_)
    · rcases hk with hk | hk
      · have := (h.tagged k (by omega)).1; omega
      · omega
    · subst e
      rcases hk with hk | hk
      · omega
      · rw [h.gtag] at hk; omega
  have okb : ∀ k, Okk base tag k → Okk base tg k := fun k hk => okup k (hk.imp id .inl)
  refine ⟨tg, v1, vg, vc, ⟨?_, ?_, ?_, ?_, ?_, ?_, ?_, ?_, ?_⟩, ?_, ?_, ?_, ?_⟩
  · intro k hk
    rw [hsz]
    by_cases e2 : v1.ownBlock = some k
    · refine ⟨?_, hR.lt k e2⟩
      rcases v1k k e2 with h' | h'
      · exact (h.tagged k (by omega)).1
      · omega
    · rw [htg] at hk
      simp only [if_neg e2] at hk
      by_cases e3 : W.heap.size ≤ k ∧ k < Wb.heap.size
      · omega
      · rw [if_neg e3] at hk
        exact ⟨(h.tagged k hk).1, by have := (h.tagged k hk).2; omega⟩
  · have hbox : w2.heap[g]? = _ := ((hg.block g (by omega) fun e => by have := h.at_ g e.symm; have := h.gtag; omega).trans (hb.block g hglt)).trans h.box
    exact blk_set hbox 0 v1
  · rw [told g hglt]; exact h.gtag
  · exact fun b hb => by rw [htg]; exact if_pos hb
  · exact fun b hb => by rw [told b (h.tagged b (by rw [h.gt_ b hb]; decide)).2]; exact h.gt_ b hb
  · exact fun b hb => by rw [told b (h.tagged b (by rw [h.ct_ b hb]; decide)).2]; exact h.ct_ b hb
  · exact (hR.mono okup).move (fun k hk hlt => far k (gne k hk)) fun k hk => far k (v1ne k hk)
  · exact ((h.rg.move (W1 := w2.setCell ⟨g, 0, none⟩ v1) (fun k hk hlt => okold k hk hlt) fun k hk => old k (h.tagged k (by rw [h.gt_ k hk]; decide)).2 (by rw [h.gt_ k hk]; decide) (by rintro rfl; have := h.gt_ k hk; have := h.gtag; omega))).bnd okb
  · exact ((h.rc.move (W1 := w2.setCell ⟨g, 0, none⟩ v1) (fun k hk hlt => okold k hk hlt) fun k hk => old k (h.tagged k (by rw [h.ct_ k hk]; decide)).2 (by rw [h.ct_ k hk]; decide) (by rintro rfl; have := h.ct_ k hk; have := h.gtag; omega))).bnd okb
  · refine Kept.setCell ?_ (.inl (by show tag g ≠ 0; rw [h.gtag]; decide)) _
    refine Kept.of_grown hg ((Kept.refl W _).below hb) fun k hk => .inl ?_
    have := h.at_ k hk
    omega
  · exact (((hb.mono h.low).trans ((Below.refl base Wb).grown hg (by have := h.low; omega) fun k hk => (h.tagged k (by rw [h.at_ k hk]; decide)).1))).setCell hgb _
  · intro k hk
    by_cases e2 : k < W.heap.size
    · rw [told k e2] at hk
      exact .inl hk
    · exact .inr (by omega)
  · exact fun k hk => ⟨old k (h.tagged k (by omega)).2 (by omega) (by rintro rfl; have := h.gtag; omega), by rw [told k (h.tagged k (by omega)).2]; exact hk⟩
/-- The row g is another. -/
theorem Rs.set_g (h : Rs base W g tag an gs cs va vg vc na ng) (hb : Below W.heap.size W Wb) (hR : Row Kd.bool 4 w2 (fun k => k < base ∨ tag k = 3 ∨ W.heap.size ≤ k ∧ k < Wb.heap.size) v1 gs') (hg : Wb.grownBy w2 vg.ownBlock) (hat : ∀ b, v1.ownBlock = some b → vg.ownBlock = some b ∨ Wb.heap.size ≤ b) :
    RsAfter base W g tag an gs' cs na ng (w2.setCell ⟨g, 1, none⟩ v1) := by
  have hglt := (h.tagged g (by rw [h.gtag]; decide)).2
  have hgb := (h.tagged g (by rw [h.gtag]; decide)).1
  have hle : W.heap.size ≤ Wb.heap.size := hb.size
  have hle2 := hg.size
  have hsz : (w2.setCell ⟨g, 1, none⟩ v1).heap.size = w2.heap.size := by simp [World.setCell]
  have far : ∀ k, k ≠ g → (w2.setCell ⟨g, 1, none⟩ v1).heap[k]? = w2.heap[k]? := fun k hk => Below.heap_setCell w2 ⟨g, 1, none⟩ v1 k hk
  have old : ∀ k, k < W.heap.size → tag k ≠ 4 → k ≠ g → (w2.setCell ⟨g, 1, none⟩ v1).heap[k]? = W.heap[k]? := fun k hk h7 h8 =>
    ((far k h8).trans (hg.block k (by omega) fun e => h7 (h.gt_ k e.symm))).trans (hb.block k hk)
  have v1k : ∀ k, v1.ownBlock = some k → tag k = 4 ∨ Wb.heap.size ≤ k := fun k hk => (hat k hk).imp (fun e => h.gt_ k e) id
  have v1ne : ∀ k, v1.ownBlock = some k → k ≠ g := by
    rintro k hk rfl
    have := h.gtag
    rcases v1k k hk with h | h <;> omega
  obtain ⟨tg, htg⟩ : ∃ tg : Nat → Nat, tg = fun k => if v1.ownBlock = some k then 4 else if W.heap.size ≤ k ∧ k < Wb.heap.size then 3 else tag k := ⟨_, rfl⟩
  have told : ∀ k, k < W.heap.size → tg k = tag k := by
    intro k hk
    rw [htg]
    by_cases e2 : v1.ownBlock = some k
    · simp only [if_pos e2]
      rcases v1k k e2 with h | h <;> omega
    · simp only [if_neg e2]
      exact if_neg (by omega)
  have okup : ∀ k, (k < base ∨ tag k = 3 ∨ W.heap.size ≤ k ∧ k < Wb.heap.size) → Okk base tg k := by
    intro k hk
    rcases hk with hk | hk | hk
    · exact .inl hk
    · exact .inr (by rw [told k (h.tagged k (by omega)).2]; exact hk)
    · refine .inr ?_
      rw [htg]
      have e2 : ¬ v1.ownBlock = some k := fun e2 => by
        rcases v1k k e2 with h' | h'
        · have := (h.tagged k (by omega)).2; omega
        · omega
      simp only [if_neg e2]
      exact if_pos hk
  have gne : ∀ k, Okk base tg k → k ≠ g := by
    rintro k hk rfl
    rcases hk with hk | hk
    · omega
    · rw [told k hglt, h.gtag] at hk
      omega
  have okold : ∀ k, Okk base tag k → k < W.heap.size → (w2.setCell ⟨g, 1, none⟩ v1).heap[k]? = W.heap[k]? := by
    intro k hk hlt
    refine old k hlt (fun e => ?_) (fun e => ?_)
    · rcases hk with hk | hk
      · have := (h.tagged k (by omega)).1; omega
      · omega
    · subst e
      rcases hk with hk | hk
      · omega
      · rw [h.gtag] at hk; omega
  have okb : ∀ k, Okk base tag k → Okk base tg k := fun k hk => okup k (hk.imp id .inl)
  refine ⟨tg, va, v1, vc, ⟨?_, ?_, ?_, ?_, ?_, ?_, ?_, ?_, ?_⟩, ?_, ?_, ?_, ?_⟩
  · intro k hk
    rw [hsz]
    by_cases e2 : v1.ownBlock = some k
    · refine ⟨?_, hR.lt k e2⟩
      rcases v1k k e2 with h' | h'
      · exact (h.tagged k (by omega)).1
      · omega
    · rw [htg] at hk
      simp only [if_neg e2] at hk
      by_cases e3 : W.heap.size ≤ k ∧ k < Wb.heap.size
      · omega
      · rw [if_neg e3] at hk
        exact ⟨(h.tagged k hk).1, by have := (h.tagged k hk).2; omega⟩
  · have hbox : w2.heap[g]? = _ := ((hg.block g (by omega) fun e => by have := h.gt_ g e.symm; have := h.gtag; omega).trans (hb.block g hglt)).trans h.box
    exact blk_set hbox 1 v1
  · rw [told g hglt]; exact h.gtag
  · exact fun b hb => by rw [told b (h.tagged b (by rw [h.at_ b hb]; decide)).2]; exact h.at_ b hb
  · exact fun b hb => by rw [htg]; exact if_pos hb
  · exact fun b hb => by rw [told b (h.tagged b (by rw [h.ct_ b hb]; decide)).2]; exact h.ct_ b hb
  · exact ((h.ra.move (W1 := w2.setCell ⟨g, 1, none⟩ v1) (fun k hk hlt => okold k hk hlt) fun k hk => old k (h.tagged k (by rw [h.at_ k hk]; decide)).2 (by rw [h.at_ k hk]; decide) (by rintro rfl; have := h.at_ k hk; have := h.gtag; omega))).bnd okb
  · exact (hR.mono okup).move (fun k hk hlt => far k (gne k hk)) fun k hk => far k (v1ne k hk)
  · exact ((h.rc.move (W1 := w2.setCell ⟨g, 1, none⟩ v1) (fun k hk hlt => okold k hk hlt) fun k hk => old k (h.tagged k (by rw [h.ct_ k hk]; decide)).2 (by rw [h.ct_ k hk]; decide) (by rintro rfl; have := h.ct_ k hk; have := h.gtag; omega))).bnd okb
  · refine Kept.setCell ?_ (.inl (by show tag g ≠ 0; rw [h.gtag]; decide)) _
    refine Kept.of_grown hg ((Kept.refl W _).below hb) fun k hk => .inl ?_
    have := h.gt_ k hk
    omega
  · exact (((hb.mono h.low).trans ((Below.refl base Wb).grown hg (by have := h.low; omega) fun k hk => (h.tagged k (by rw [h.gt_ k hk]; decide)).1))).setCell hgb _
  · intro k hk
    by_cases e2 : k < W.heap.size
    · rw [told k e2] at hk
      exact .inl hk
    · exact .inr (by omega)
  · exact fun k hk => ⟨old k (h.tagged k (by omega)).2 (by omega) (by rintro rfl; have := h.gtag; omega), by rw [told k (h.tagged k (by omega)).2]; exact hk⟩
/-- The row c is another. -/
theorem Rs.set_c (h : Rs base W g tag an gs cs va vg vc na ng) (hb : Below W.heap.size W Wb) (hR : Row k164 164 w2 (fun k => k < base ∨ tag k = 3 ∨ W.heap.size ≤ k ∧ k < Wb.heap.size) v1 cs') (hg : Wb.grownBy w2 vc.ownBlock) (hat : ∀ b, v1.ownBlock = some b → vc.ownBlock = some b ∨ Wb.heap.size ≤ b) :
    RsAfter base W g tag an gs cs' na ng (w2.setCell ⟨g, 4, none⟩ v1) := by
  have hglt := (h.tagged g (by rw [h.gtag]; decide)).2
  have hgb := (h.tagged g (by rw [h.gtag]; decide)).1
  have hle : W.heap.size ≤ Wb.heap.size := hb.size
  have hle2 := hg.size
  have hsz : (w2.setCell ⟨g, 4, none⟩ v1).heap.size = w2.heap.size := by simp [World.setCell]
  have far : ∀ k, k ≠ g → (w2.setCell ⟨g, 4, none⟩ v1).heap[k]? = w2.heap[k]? := fun k hk => Below.heap_setCell w2 ⟨g, 4, none⟩ v1 k hk
  have old : ∀ k, k < W.heap.size → tag k ≠ 5 → k ≠ g → (w2.setCell ⟨g, 4, none⟩ v1).heap[k]? = W.heap[k]? := fun k hk h7 h8 =>
    ((far k h8).trans (hg.block k (by omega) fun e => h7 (h.ct_ k e.symm))).trans (hb.block k hk)
  have v1k : ∀ k, v1.ownBlock = some k → tag k = 5 ∨ Wb.heap.size ≤ k := fun k hk => (hat k hk).imp (fun e => h.ct_ k e) id
  have v1ne : ∀ k, v1.ownBlock = some k → k ≠ g := by
    rintro k hk rfl
    have := h.gtag
    rcases v1k k hk with h | h <;> omega
  obtain ⟨tg, htg⟩ : ∃ tg : Nat → Nat, tg = fun k => if v1.ownBlock = some k then 5 else if W.heap.size ≤ k ∧ k < Wb.heap.size then 3 else tag k := ⟨_, rfl⟩
  have told : ∀ k, k < W.heap.size → tg k = tag k := by
    intro k hk
    rw [htg]
    by_cases e2 : v1.ownBlock = some k
    · simp only [if_pos e2]
      rcases v1k k e2 with h | h <;> omega
    · simp only [if_neg e2]
      exact if_neg (by omega)
  have okup : ∀ k, (k < base ∨ tag k = 3 ∨ W.heap.size ≤ k ∧ k < Wb.heap.size) → Okk base tg k := by
    intro k hk
    rcases hk with hk | hk | hk
    · exact .inl hk
    · exact .inr (by rw [told k (h.tagged k (by omega)).2]; exact hk)
    · refine .inr ?_
      rw [htg]
      have e2 : ¬ v1.ownBlock = some k := fun e2 => by
        rcases v1k k e2 with h' | h'
        · have := (h.tagged k (by omega)).2; omega
        · omega
      simp only [if_neg e2]
      exact if_pos hk
  have gne : ∀ k, Okk base tg k → k ≠ g := by
    rintro k hk rfl
    rcases hk with hk | hk
    · omega
    · rw [told k hglt, h.gtag] at hk
      omega
  have okold : ∀ k, Okk base tag k → k < W.heap.size → (w2.setCell ⟨g, 4, none⟩ v1).heap[k]? = W.heap[k]? := by
    intro k hk hlt
    refine old k hlt (fun e => ?_) (fun e => ?_)
    · rcases hk with hk | hk
      · have := (h.tagged k (by omega)).1; omega
      · omega
    · subst e
      rcases hk with hk | hk
      · omega
      · rw [h.gtag] at hk; omega
  have okb : ∀ k, Okk base tag k → Okk base tg k := fun k hk => okup k (hk.imp id .inl)
  refine ⟨tg, va, vg, v1, ⟨?_, ?_, ?_, ?_, ?_, ?_, ?_, ?_, ?_⟩, ?_, ?_, ?_, ?_⟩
  · intro k hk
    rw [hsz]
    by_cases e2 : v1.ownBlock = some k
    · refine ⟨?_, hR.lt k e2⟩
      rcases v1k k e2 with h' | h'
      · exact (h.tagged k (by omega)).1
      · omega
    · rw [htg] at hk
      simp only [if_neg e2] at hk
      by_cases e3 : W.heap.size ≤ k ∧ k < Wb.heap.size
      · omega
      · rw [if_neg e3] at hk
        exact ⟨(h.tagged k hk).1, by have := (h.tagged k hk).2; omega⟩
  · have hbox : w2.heap[g]? = _ := ((hg.block g (by omega) fun e => by have := h.ct_ g e.symm; have := h.gtag; omega).trans (hb.block g hglt)).trans h.box
    exact blk_set hbox 4 v1
  · rw [told g hglt]; exact h.gtag
  · exact fun b hb => by rw [told b (h.tagged b (by rw [h.at_ b hb]; decide)).2]; exact h.at_ b hb
  · exact fun b hb => by rw [told b (h.tagged b (by rw [h.gt_ b hb]; decide)).2]; exact h.gt_ b hb
  · exact fun b hb => by rw [htg]; exact if_pos hb
  · exact ((h.ra.move (W1 := w2.setCell ⟨g, 4, none⟩ v1) (fun k hk hlt => okold k hk hlt) fun k hk => old k (h.tagged k (by rw [h.at_ k hk]; decide)).2 (by rw [h.at_ k hk]; decide) (by rintro rfl; have := h.at_ k hk; have := h.gtag; omega))).bnd okb
  · exact ((h.rg.move (W1 := w2.setCell ⟨g, 4, none⟩ v1) (fun k hk hlt => okold k hk hlt) fun k hk => old k (h.tagged k (by rw [h.gt_ k hk]; decide)).2 (by rw [h.gt_ k hk]; decide) (by rintro rfl; have := h.gt_ k hk; have := h.gtag; omega))).bnd okb
  · exact (hR.mono okup).move (fun k hk hlt => far k (gne k hk)) fun k hk => far k (v1ne k hk)
  · refine Kept.setCell ?_ (.inl (by show tag g ≠ 0; rw [h.gtag]; decide)) _
    refine Kept.of_grown hg ((Kept.refl W _).below hb) fun k hk => .inl ?_
    have := h.ct_ k hk
    omega
  · exact (((hb.mono h.low).trans ((Below.refl base Wb).grown hg (by have := h.low; omega) fun k hk => (h.tagged k (by rw [h.ct_ k hk]; decide)).1))).setCell hgb _
  · intro k hk
    by_cases e2 : k < W.heap.size
    · rw [told k e2] at hk
      exact .inl hk
    · exact .inr (by omega)
  · exact fun k hk => ⟨old k (h.tagged k (by omega)).2 (by omega) (by rintro rfl; have := h.gtag; omega), by rw [told k (h.tagged k (by omega)).2]; exact hk⟩
end
end Go.Proofs.Ytkpjdkmggbelfaa.Host
