/- What a stack of the reference's is in memory, and what its methods make of it. -/
import Derived.Test.YtkpjdkmggbelfaaOpClos2
namespace Go.Proofs.Ytkpjdkmggbelfaa.Operand
open Go.RowKit Go.Proofs.YtkpjdkmggbelfaaW.PrintWords Go.Proofs.YtkpjdkmggbelfaaW.PrintLast Go.Proofs.YtkpjdkmggbelfaaW.PrintMore Go.Proofs.Ytkpjdkmggbelfaa.Mem
set_option linter.unusedVariables false
set_option linter.unusedSimpArgs false
def RBox (W : World) (g : Nat) (v : Value) : Prop := W.heap[g]? = some (.cells #[v] 131 (0, 0))
theorem RBox.c0 {W : World} {g : Nat} {v : Value} (h : RBox W g v) : W.cell? ⟨g, 0, none⟩ = some v := (blk_cell h 0).trans rfl
theorem RBox.fz {W : World} {g : Nat} {v : Value} (h : RBox W g v) (j : Nat) : W.frozen? ⟨g, j, none⟩ = false := blk_frozen h j
/-- A slice that is only read. -/
structure Rd (base : Nat) (W : World) (tag : Nat → Nat) (A : Option Addr) (c : Nat) (l : List Int) : Prop where
  le : l.length ≤ c
  r : Args base W tag A l
theorem Rd.nil (base : Nat) (W : World) (tag : Nat → Nat) : Rd base W tag none 0 [] := ⟨Nat.le_refl _, Kd.F_nil _ _ _⟩
theorem Rd.move {base : Nat} {W W' : World} {tag tag' : Nat → Nat} {A : Option Addr} {c : Nat} {l : List Int} (h : Rd base W tag A c l) (hb : ∀ k, k < base → W'.heap[k]? = W.heap[k]?) (h3 : ∀ k, tag k = 3 → W'.heap[k]? = W.heap[k]? ∧ tag' k = 3) : Rd base W' tag' A c l :=
  ⟨h.le, Kd.F_mono (Kd.F_step h.r fun k hk hlt => hk.elim (fun e => hb k e) (fun e => (h3 k e).1)) fun k hk => hk.imp id fun e => (h3 k e).2⟩
structure RAt (base : Nat) (W : World) (tag : Nat → Nat) (j : Nat) (f : Fr) (cells : List Value) (A0 : Option Addr) (c0 : Nat) (A1 : Option Addr) (c1 : Nat) (A2 : Option Addr) (c2 : Nat) : Prop where
  e0 : cells[j * 4]? = some (.slice A0 f.label.length c0)
  e1 : cells[j * 4 + 1]? = some (.slice A1 f.fin.length c1)
  e2 : cells[j * 4 + 2]? = some (.slice A2 f.types.length c2)
  e3 : cells[j * 4 + 3]? = some (.bool f.dead)
  r0 : Rd base W tag A0 c0 f.label
  r1 : Rd base W tag A1 c1 f.fin
  r2 : Rd base W tag A2 c2 f.types
theorem RAt.move {base : Nat} {W W' : World} {tag tag' : Nat → Nat} {j : Nat} {f : Fr} {cells cells' : List Value} {A0 A1 A2 : Option Addr} {c0 c1 c2 : Nat} (h : RAt base W tag j f cells A0 c0 A1 c1 A2 c2)
    (hb : ∀ k, k < base → W'.heap[k]? = W.heap[k]?) (h3 : ∀ k, tag k = 3 → W'.heap[k]? = W.heap[k]? ∧ tag' k = 3) (hc : ∀ i, i < 4 → cells'[j * 4 + i]? = cells[j * 4 + i]?) : RAt base W' tag' j f cells' A0 c0 A1 c1 A2 c2 :=
  ⟨(hc 0 (by omega)).trans h.e0, (hc 1 (by omega)).trans h.e1, (hc 2 (by omega)).trans h.e2, (hc 3 (by omega)).trans h.e3, h.r0.move hb h3, h.r1.move hb h3, h.r2.move hb h3⟩
structure RStk (base : Nat) (W : World) (g : Nat) (tag : Nat → Nat) (fs : List Fr) (v : Value) (cells : List Value) : Prop where
  tagged : ∀ k, tag k ≠ 0 → base ≤ k ∧ k < W.heap.size
  box : RBox W g v
  gtag : tag g = 1
  vtag : ∀ b, v.ownBlock = some b → tag b = 2
  row : Loose W 183 4 v fs.length cells
  at_ : ∀ j f, fs[j]? = some f → ∃ A0 c0 A1 c1 A2 c2, RAt base W tag j f cells A0 c0 A1 c1 A2 c2
section
variable {base : Nat} {W W1 W' : World} {g b cap : Nat} {tag : Nat → Nat} {fs gs : List Fr} {f : Fr} {v : Value} {cells : List Value}
theorem RStk.low (h : RStk base W g tag fs v cells) : base ≤ W.heap.size := by
  have := h.tagged g (by rw [h.gtag]; decide)
  omega
theorem RStk.move (h : RStk base W g tag fs v cells) (hs : W.heap.size ≤ W'.heap.size) (hb : ∀ k, k < base → W'.heap[k]? = W.heap[k]?) (hm : ∀ k, tag k ≠ 0 → W'.heap[k]? = W.heap[k]?) : RStk base W' g tag fs v cells := by
  obtain ⟨h1, h2, h3, h4, h5, h6⟩ := h
  refine ⟨fun k hk => ⟨(h1 k hk).1, Nat.lt_of_lt_of_le (h1 k hk).2 hs⟩, (hm g (by omega)).trans h2, h3, h4, h5.move fun k hk => hm k (by have := h4 k hk; omega), fun j f hj => ?_⟩
  obtain ⟨A0, c0, A1, c1, A2, c2, hf⟩ := h6 j f hj
  exact ⟨A0, c0, A1, c1, A2, c2, hf.move hb (fun k hk => ⟨hm k (by omega), hk⟩) (fun _ _ => rfl)⟩
theorem RStk.below (h : RStk base W g tag fs v cells) (hb : Below W.heap.size W W') : RStk base W' g tag fs v cells :=
  h.move hb.size (fun k hk => hb.block k (Nat.lt_of_lt_of_le hk h.low)) fun k hk => hb.block k (h.tagged k hk).2
def RAfterV (base : Nat) (W : World) (g : Nat) (tag : Nat → Nat) (fs' : List Fr) (v' : Value) (W' : World) : Prop :=
  ∃ tag' cells', RStk base W' g tag' fs' v' cells' ∧ Kept W W' (fun k => tag k ≠ 0) ∧ Below base W W' ∧ (∀ k, tag' k ≠ 0 → tag k ≠ 0 ∨ W.heap.size ≤ k) ∧ ∀ k, tag k = 3 → W'.heap[k]? = W.heap[k]? ∧ tag' k = 3
def RAfter (base : Nat) (W : World) (g : Nat) (tag : Nat → Nat) (fs' : List Fr) (W' : World) : Prop := ∃ v', RAfterV base W g tag fs' v' W'
theorem RAfterV.any (h : RAfterV base W g tag fs v W') : RAfter base W g tag fs W' := ⟨v, h⟩
theorem RAfterV.same (h : RStk base W g tag fs v cells) (hb : Below W.heap.size W W') : RAfterV base W g tag fs v W' :=
  ⟨tag, cells, h.below hb, Kept.of_below hb _, hb.mono h.low, (fun k hk => .inl hk), fun k hk => ⟨hb.block k (h.tagged k (by omega)).2, hk⟩⟩
theorem RAfterV.then_ {W2 : World} {tag1 : Nat → Nat} {fs2 : List Fr} {v2 : Value} (hk : Kept W W1 (fun k => tag k ≠ 0)) (hb : Below base W W1) (ht : ∀ k, tag1 k ≠ 0 → tag k ≠ 0 ∨ W.heap.size ≤ k)
    (h3 : ∀ k, tag k = 3 → W1.heap[k]? = W.heap[k]? ∧ tag1 k = 3) (h2 : RAfterV base W1 g tag1 fs2 v2 W2) : RAfterV base W g tag fs2 v2 W2 := by
  obtain ⟨tag2, cells2, hs2, hk2, hb2, ht2, h4⟩ := h2
  refine ⟨tag2, cells2, hs2, hk.then_ hk2 ht, hb.trans hb2, fun k hk3 => ?_, fun k hk3 => ?_⟩
  · rcases ht2 k hk3 with h | h
    · exact ht k h
    · exact .inr (Nat.le_trans hb.size h)
  · obtain ⟨a, b⟩ := h3 k hk3
    obtain ⟨c, d⟩ := h4 k b
    exact ⟨c.trans a, d⟩
theorem RAfterV.below {W2 : World} (h : RAfterV base W g tag fs v W1) (hb : Below W1.heap.size W1 W2) : RAfterV base W g tag fs v W2 := by
  obtain ⟨tag1, cells1, h1, hk1, hb1, ht1, h31⟩ := h
  exact ⟨tag1, cells1, h1.below hb, hk1.below hb, hb1.trans (hb.mono h1.low), ht1, fun k hk => ⟨(hb.block k (h1.tagged k (by rw [(h31 k hk).2]; decide)).2).trans (h31 k hk).1, (h31 k hk).2⟩⟩
/-- What is known of the last frame. -/
structure RLast (base : Nat) (w : World) (g b m cap : Nat) (tag : Nat → Nat) (f : Fr) (A0 : Option Addr) (c0 : Nat) (A1 : Option Addr) (c1 : Nat) (A2 : Option Addr) (c2 : Nat) : Prop where
  box : RBox w g (.slice (some ⟨b, 0, none⟩) (m + 1) cap)
  x0 : w.cell? ⟨b, m * 4, none⟩ = some (.slice A0 f.label.length c0)
  x1 : w.cell? ⟨b, m * 4 + 1, none⟩ = some (.slice A1 f.fin.length c1)
  x2 : w.cell? ⟨b, m * 4 + 2, none⟩ = some (.slice A2 f.types.length c2)
  x3 : w.cell? ⟨b, m * 4 + 3, none⟩ = some (.bool f.dead)
  fz : ∀ i, w.frozen? ⟨b, i, none⟩ = false
  r0 : Rd base w tag A0 c0 f.label
  r1 : Rd base w tag A1 c1 f.fin
  r2 : Rd base w tag A2 c2 f.types
  cap1 : m + 1 ≤ cap
  gb : g < w.heap.size
  bb : b < w.heap.size
theorem rstk_last (h : RStk base W g tag (gs ++ [f]) v cells) : ∃ b cap A0 c0 A1 c1 A2 c2, v = .slice (some ⟨b, 0, none⟩) (gs.length + 1) cap ∧ RLast base W g b gs.length cap tag f A0 c0 A1 c1 A2 c2 := by
  have hrow := h.row
  have hlen : (gs ++ [f]).length = gs.length + 1 := by simp
  rw [hlen] at hrow
  obtain ⟨A0, c0, A1, c1, A2, c2, hf⟩ := h.at_ gs.length f getLast_at
  have hbox := h.box
  have hg := (h.tagged g (by rw [h.gtag]; decide)).2
  have hbt := h.vtag
  rcases hrow.2 with ⟨_, h0⟩ | ⟨b, cap, cur, rfl, hgb, hn, hm, hs, ht⟩
  · omega
  · exact ⟨b, cap, A0, c0, A1, c1, A2, c2, rfl, hbox, loose_cell hrow _ _ hf.e0, loose_cell hrow _ _ hf.e1, loose_cell hrow _ _ hf.e2, loose_cell hrow _ _ hf.e3, fun i => loose_free hrow i, hf.r0, hf.r1, hf.r2, hn, hg, (h.tagged b (by rw [hbt b rfl]; decide)).2⟩
theorem rstk_empty (h : RStk base W g tag [] v cells) : ∃ A c, v = .slice A 0 c ∧ RBox W g (.slice A 0 c) := by
  obtain ⟨A, c, rfl⟩ := row_one h.row
  exact ⟨A, c, rfl, h.box⟩
/-- The last frame is written over. -/
theorem rstk_set (h : RStk base W g tag (gs ++ [f]) (.slice (some ⟨b, 0, none⟩) (gs.length + 1) cap) cells) (hb : Below W.heap.size W W1) (f' : Fr) {A0 A1 A2 : Option Addr} {c0 c1 c2 : Nat} (tg : Nat → Nat)
    (htg : ∀ k, k < W.heap.size → tg k = tag k) (htn : ∀ k, tg k ≠ 0 → tag k ≠ 0 ∨ W.heap.size ≤ k ∧ k < W1.heap.size)
    (r0 : Rd base W1 tg A0 c0 f'.label) (r1 : Rd base W1 tg A1 c1 f'.fin) (r2 : Rd base W1 tg A2 c2 f'.types) :
    RAfterV base W g tag (gs ++ [f']) (.slice (some ⟨b, 0, none⟩) (gs.length + 1) cap) ((((W1.setCell ⟨b, gs.length * 4, none⟩ (.slice A0 f'.label.length c0)).setCell ⟨b, gs.length * 4 + 1, none⟩ (.slice A1 f'.fin.length c1)).setCell ⟨b, gs.length * 4 + 2, none⟩ (.slice A2 f'.types.length c2)).setCell ⟨b, gs.length * 4 + 3, none⟩ (.bool f'.dead)) := by
  obtain ⟨h1, h2, h3, h4, h5, h6⟩ := h
  have hlen : (gs ++ [f]).length = gs.length + 1 := by simp
  rw [hlen] at h5
  have hb2 : tag b = 2 := h4 b rfl
  have hblt := (h1 b (by omega)).2
  have hbb := (h1 b (by omega)).1
  have hglt := (h1 g (by omega)).2
  have hbase : base ≤ W.heap.size := by have := (h1 g (by omega)).1; omega
  obtain ⟨W2, hW2⟩ : ∃ W2, W2 = ((((W1.setCell ⟨b, gs.length * 4, none⟩ (.slice A0 f'.label.length c0)).setCell ⟨b, gs.length * 4 + 1, none⟩ (.slice A1 f'.fin.length c1)).setCell ⟨b, gs.length * 4 + 2, none⟩ (.slice A2 f'.types.length c2)).setCell ⟨b, gs.length * 4 + 3, none⟩ (.bool f'.dead)) := ⟨_, rfl⟩
  have hm : Loose W1 183 4 (.slice (some ⟨b, 0, none⟩) (gs.length + 1) cap) (gs.length + 1) cells := h5.move fun k hk => by
    injection hk with hk
    subst hk
    exact hb.block b hblt
  have hL := loose_set (loose_set (loose_set (loose_set hm (gs.length * 4) (.slice A0 f'.label.length c0)) (gs.length * 4 + 1) (.slice A1 f'.fin.length c1)) (gs.length * 4 + 2) (.slice A2 f'.types.length c2)) (gs.length * 4 + 3) (.bool f'.dead)
  have far : ∀ k, k ≠ b → W2.heap[k]? = W1.heap[k]? := fun k hk => by
    rw [hW2]
    exact (set_other k hk).trans ((set_other k hk).trans ((set_other k hk).trans (set_other k hk)))
  have hsz : W2.heap.size = W1.heap.size := by rw [hW2]; simp [World.setCell]
  have hKept : Kept W W2 (fun k => tag k ≠ 0) := by
    rw [hW2]
    exact (((((Kept.of_below hb _).setCell (.inl (by show tag b ≠ 0; omega)) _).setCell (.inl (by show tag b ≠ 0; omega)) _).setCell (.inl (by show tag b ≠ 0; omega)) _).setCell (.inl (by show tag b ≠ 0; omega)) _)
  have hBel : Below base W W2 := by
    rw [hW2]
    exact (((((hb.mono hbase).setCell hbb _).setCell hbb _).setCell hbb _).setCell hbb _)
  rw [← hW2] at hL ⊢
  have old : ∀ k, k < W.heap.size → k ≠ b → W2.heap[k]? = W.heap[k]? := fun k hk hn => (far k hn).trans (hb.block k hk)
  have tg3 : ∀ k, tg k = 3 → k ≠ b := by rintro k hk rfl; rw [htg k hblt] at hk; omega
  have up : ∀ {A : Option Addr} {c : Nat} {l : List Int}, Rd base W1 tg A c l → Rd base W2 tg A c l := fun h => h.move (fun k hk => far k (by rintro rfl; omega)) (fun k hk => ⟨far k (tg3 k hk), hk⟩)
  refine ⟨tg, _, ⟨fun k hk => ?_, ?_, ?_, ?_, by simpa using hL, ?_⟩, hKept, hBel, fun k hk => ?_, fun k hk => ?_⟩
  · rw [hsz]
    have := hb.size
    rcases htn k hk with h | h
    · exact ⟨(h1 k h).1, by have := (h1 k h).2; omega⟩
    · exact ⟨by omega, h.2⟩
  · exact (old g hglt (by rintro rfl; omega)).trans h2
  · rw [htg g hglt]; exact h3
  · intro b' hb'
    injection hb' with hb'
    subst hb'
    rw [htg b hblt]; exact hb2
  · intro j f1 hj
    have hcl : cells.length = (gs.length + 1) * 4 := h5.1
    rcases Nat.lt_trichotomy j gs.length with hjl | hjl | hjl
    · rw [List.getElem?_append_left hjl] at hj
      obtain ⟨B0, d0, B1, d1, B2, d2, hf⟩ := h6 j f1 (by rw [List.getElem?_append_left hjl]; exact hj)
      exact ⟨B0, d0, B1, d1, B2, d2, hf.move (fun k hk => old k (by omega) (by rintro rfl; omega)) (fun k hk => ⟨old k (h1 k (by omega)).2 (by rintro rfl; omega), by rw [htg k (h1 k (by omega)).2]; exact hk⟩) (fun i hi => by
        rw [List.getElem?_set_ne (by omega), List.getElem?_set_ne (by omega), List.getElem?_set_ne (by omega), List.getElem?_set_ne (by omega)])⟩
    · subst hjl
      rw [getLast_at] at hj
      injection hj with hj
      subst hj
      refine ⟨A0, c0, A1, c1, A2, c2, ?_, ?_, ?_, ?_, up r0, up r1, up r2⟩
      · rw [List.getElem?_set_ne (by omega), List.getElem?_set_ne (by omega), List.getElem?_set_ne (by omega), List.getElem?_set_self (by omega)]
      · rw [List.getElem?_set_ne (by omega), List.getElem?_set_ne (by omega), List.getElem?_set_self (by rw [List.length_set]; omega)]
      · rw [List.getElem?_set_ne (by omega), List.getElem?_set_self (by rw [List.length_set, List.length_set]; omega)]
      · rw [List.getElem?_set_self (by rw [List.length_set, List.length_set, List.length_set]; omega)]
    · rw [List.getElem?_eq_none (by simp; omega)] at hj
      cases hj
  · rcases htn k hk with h | h
    · exact .inl h
    · exact .inr h.1
  · have hlt := (h1 k (by omega)).2
    exact ⟨old k hlt (by rintro rfl; omega), by rw [htg k hlt]; exact hk⟩
/-- The last frame is gone. -/
theorem rstk_close (h : RStk base W g tag (gs ++ [f]) (.slice (some ⟨b, 0, none⟩) (gs.length + 1) cap) cells) :
    RAfter base W g tag gs (W.setCell ⟨g, 0, none⟩ (.slice (some ⟨b, 0, none⟩) gs.length cap)) := by
  obtain ⟨h1, h2, h3, h4, h5, h6⟩ := h
  have hlen : (gs ++ [f]).length = gs.length + 1 := by simp
  rw [hlen] at h5
  have hb2 : tag b = 2 := h4 b rfl
  have hgb := (h1 g (by omega)).1
  have old : ∀ k, k ≠ g → (W.setCell ⟨g, 0, none⟩ (.slice (some ⟨b, 0, none⟩) gs.length cap)).heap[k]? = W.heap[k]? := fun k h8 => set_other k h8
  have hsz : (W.setCell ⟨g, 0, none⟩ (.slice (some ⟨b, 0, none⟩) gs.length cap)).heap.size = W.heap.size := by simp [World.setCell]
  have hncap : gs.length + 1 ≤ cap := (Loose.get h5).2.1
  refine ⟨.slice (some ⟨b, 0, none⟩) gs.length cap, tag, cells.take (gs.length * 4), ⟨fun k hk => by rw [hsz]; exact h1 k hk, ?_, h3, h4, ?_, ?_⟩,
    (Kept.refl W _).setCell (.inl (by show tag g ≠ 0; omega)) _, (Below.refl base W).setCell hgb _, (fun k hk => .inl hk), fun k hk => ⟨old k (by rintro rfl; omega), hk⟩⟩
  · exact blk_set h2 0 (.slice (some ⟨b, 0, none⟩) gs.length cap)
  · exact (h5.cut (c' := cap) (Nat.le_succ _) (by omega) (Nat.le_refl _)).move fun k hk => old k (by injection hk with hk; subst hk; intro e; have e : b = g := e; rw [e] at hb2; omega)
  · intro j f' hj
    have hjl : j < gs.length := (List.getElem?_eq_some_iff.1 hj).1
    obtain ⟨B0, d0, B1, d1, B2, d2, hf⟩ := h6 j f' (by rw [List.getElem?_append_left hjl]; exact hj)
    exact ⟨B0, d0, B1, d1, B2, d2, hf.move (fun k hk => old k (by rintro rfl; omega)) (fun k hk => ⟨old k (by rintro rfl; omega), hk⟩) (fun i hi => by rw [List.getElem?_take_of_lt (by omega)])⟩
/-- A frame more. -/
theorem rstk_open {Wa w1 : World} {v1 : Value} {A0 A1 : Option Addr} {c0 c1 : Nat} {l e : List Int} (h : RStk base W g tag fs v cells) (hWa : Below W.heap.size W Wa)
    (r0 : Rd base W tag A0 c0 l) (r1 : Rd base W tag A1 c1 e)
    (h1 : Loose w1 183 4 v1 (fs.length + 1) (cells ++ [.slice A0 l.length c0, .slice A1 e.length c1, .slice none 0 0, .bool false])) (hg : Wa.grownBy w1 v.ownBlock) (hat : v1.ownBlock = v.ownBlock ∨ ∃ b, v1.ownBlock = some b ∧ Wa.heap.size ≤ b) :
    RAfter base W g tag (fs ++ [⟨l, e, [], false⟩]) (w1.setCell ⟨g, 0, none⟩ v1) := by
  obtain ⟨t1, t2, t3, t4, t5, t6⟩ := h
  have hglt := (t1 g (by omega)).2
  have hgb := (t1 g (by omega)).1
  have hbase : base ≤ W.heap.size := by omega
  have hsz : (w1.setCell ⟨g, 0, none⟩ v1).heap.size = w1.heap.size := by simp [World.setCell]
  have hle : W.heap.size ≤ Wa.heap.size := hWa.size
  have hle2 := hg.size
  have old : ∀ k, k < W.heap.size → tag k ≠ 2 → k ≠ g → (w1.setCell ⟨g, 0, none⟩ v1).heap[k]? = W.heap[k]? := fun k hk h7 h8 =>
    ((set_other k h8).trans (hg.block k (by omega) fun e => h7 (t4 k e.symm))).trans (hWa.block k hk)
  have v1k : ∀ k, v1.ownBlock = some k → tag k = 2 ∨ Wa.heap.size ≤ k := by
    intro k hk
    rcases hat with e2 | ⟨b, e2, hb⟩
    · rw [e2] at hk; exact .inl (t4 k hk)
    · rw [e2] at hk; injection hk with hk; exact .inr (by omega)
  obtain ⟨tg, htg⟩ : ∃ tg : Nat → Nat, tg = fun k => if v1.ownBlock = some k then 2 else tag k := ⟨_, rfl⟩
  have tg_old : ∀ k, k < W.heap.size → tg k = tag k := by
    intro k hk
    rw [htg]
    by_cases e2 : v1.ownBlock = some k
    · simp only [if_pos e2]
      rcases v1k k e2 with h | h <;> omega
    · simp only [if_neg e2]
  have b0 : ∀ k, k < base → (w1.setCell ⟨g, 0, none⟩ v1).heap[k]? = W.heap[k]? := fun k hk => old k (by omega) (fun h2 => by have := (t1 k (by omega)).1; omega) (by omega)
  have b3 : ∀ k, tag k = 3 → (w1.setCell ⟨g, 0, none⟩ v1).heap[k]? = W.heap[k]? ∧ tg k = 3 := fun k hk => ⟨old k (t1 k (by omega)).2 (by omega) (by rintro rfl; omega), by rw [tg_old k (t1 k (by omega)).2]; exact hk⟩
  refine ⟨v1, tg, cells ++ [.slice A0 l.length c0, .slice A1 e.length c1, .slice none 0 0, .bool false], ⟨?_, ?_, ?_, ?_, ?_, ?_⟩, ?_, ?_, ?_, ?_⟩
  · intro k hk
    rw [hsz]
    by_cases e2 : v1.ownBlock = some k
    · refine ⟨?_, h1.lt k e2⟩
      rcases v1k k e2 with h | h
      · exact (t1 k (by omega)).1
      · omega
    · rw [htg] at hk
      simp only [if_neg e2] at hk
      exact ⟨(t1 k hk).1, by have := (t1 k hk).2; omega⟩
  · have hbox : w1.heap[g]? = some (.cells #[v] 131 (0, 0)) := ((hg.block g (by omega) fun e => by have := t4 g e.symm; omega).trans (hWa.block g hglt)).trans t2
    exact blk_set hbox 0 v1
  · rw [tg_old g hglt]; exact t3
  · intro b hb
    rw [htg]
    simp only [if_pos hb]
  · have hne : ∀ k, v1.ownBlock = some k → k ≠ g := by
      rintro k hk rfl
      rcases v1k k hk with h | h <;> omega
    have := h1.move (w1 := w1.setCell ⟨g, 0, none⟩ v1) fun k hk => set_other k (hne k hk)
    simpa using this
  · intro j f' hj
    rcases Nat.lt_trichotomy j fs.length with hjl | hjl | hjl
    · rw [List.getElem?_append_left hjl] at hj
      obtain ⟨B0, d0, B1, d1, B2, d2, hf⟩ := t6 j f' hj
      exact ⟨B0, d0, B1, d1, B2, d2, hf.move b0 b3 (fun i hi => List.getElem?_append_left (by rw [t5.1]; omega))⟩
    · subst hjl
      have hf' : f' = ⟨l, e, [], false⟩ := by simp at hj; exact hj.symm
      subst hf'
      have hc4 : cells.length = fs.length * 4 := t5.1
      refine ⟨A0, c0, A1, c1, none, 0, ?_, ?_, ?_, ?_, r0.move b0 b3, r1.move b0 b3, Rd.nil _ _ _⟩
      · rw [← hc4, List.getElem?_append_right (Nat.le_refl _), Nat.sub_self]; rfl
      · rw [← hc4, List.getElem?_append_right (by omega), show cells.length + 1 - cells.length = 1 by omega]; rfl
      · rw [← hc4, List.getElem?_append_right (by omega), show cells.length + 2 - cells.length = 2 by omega]; rfl
      · rw [← hc4, List.getElem?_append_right (by omega), show cells.length + 3 - cells.length = 3 by omega]; rfl
    · rw [List.getElem?_eq_none (by simp; omega)] at hj
      cases hj
  · refine Kept.setCell ?_ (.inl (by show tag g ≠ 0; omega)) _
    refine Kept.of_grown hg ((Kept.refl W _).below hWa) fun k hk => .inl ?_
    have := t4 k hk
    omega
  · exact (((hWa.mono hbase).trans ((Below.refl base Wa).grown hg (by omega) fun k hk => (t1 k (by have := t4 k hk; omega)).1))).setCell hgb _
  · intro k hk
    by_cases e2 : k < W.heap.size
    · rw [tg_old k e2] at hk
      exact .inl hk
    · exact .inr (by omega)
  · exact b3
end
end Go.Proofs.Ytkpjdkmggbelfaa.Operand
