/- What a stack of operand's is in memory. -/
import Derived.Test.YtkpjdkmggbelfaaOpLast
import Derived.Test.YtkpjdkmggbelfaaOpModel
namespace Go.Proofs.Ytkpjdkmggbelfaa.Operand
open Go.RowKit Go.Proofs.YtkpjdkmggbelfaaW.PrintWords Go.Proofs.YtkpjdkmggbelfaaW.PrintLast Go.Proofs.YtkpjdkmggbelfaaW.PrintMore Go.Proofs.Ytkpjdkmggbelfaa.Mem
set_option linter.unusedVariables false
set_option linter.unusedSimpArgs false
/-- Frame j, at the cells of the frames' row: what it only reads lies in blocks of tag 3, its types in one of tag j + 4. -/
structure FrAt (W : World) (tag : Nat → Nat) (j : Nat) (f : Fr) (cells : List Value) (A0 : Option Addr) (c0 : Nat) (A1 : Option Addr) (c1 : Nat) (vt : Value) : Prop where
  e0 : cells[j * 4]? = some (.slice A0 f.label.length c0)
  e1 : cells[j * 4 + 1]? = some (.slice A1 f.fin.length c1)
  e2 : cells[j * 4 + 2]? = some vt
  e3 : cells[j * 4 + 3]? = some (.bool f.dead)
  l0 : f.label.length ≤ c0
  r0 : Kd.F ku W (fun k => tag k = 3) A0 f.label.length f.label
  l1 : f.fin.length ≤ c1
  r1 : Kd.F ku W (fun k => tag k = 3) A1 f.fin.length f.fin
  r2 : Loose W 5 1 vt f.types.length (nums .u8 f.types)
  t2 : ∀ t, vt.ownBlock = some t → tag t = j + 4
theorem FrAt.move {W W' : World} {tag tag' : Nat → Nat} {j : Nat} {f : Fr} {cells cells' : List Value} {A0 A1 : Option Addr} {c0 c1 : Nat} {vt : Value} (h : FrAt W tag j f cells A0 c0 A1 c1 vt)
    (hm : ∀ k, (tag k = 3 ∨ tag k = j + 4) → k < W.heap.size → W'.heap[k]? = W.heap[k]?) (ht : ∀ k, k < W.heap.size → tag' k = tag k) (hc : ∀ i, i < 4 → cells'[j * 4 + i]? = cells[j * 4 + i]?) : FrAt W' tag' j f cells' A0 c0 A1 c1 vt := by
  obtain ⟨e0, e1, e2, e3, l0, r0, l1, r1, r2, t2⟩ := h
  refine ⟨(hc 0 (by omega)).trans e0, (hc 1 (by omega)).trans e1, (hc 2 (by omega)).trans e2, (hc 3 (by omega)).trans e3, l0, ?_, l1, ?_, r2.move fun k hk => hm k (.inr (t2 k hk)) (r2.lt k hk), fun t htt => (ht t (r2.lt t htt)).trans (t2 t htt)⟩
  · exact Kd.F_mono (Kd.F_step (Kd.F_bound r0) fun k hk hlt => hm k (.inl hk.1) hlt) fun k hk => (ht k hk.2).trans hk.1
  · exact Kd.F_mono (Kd.F_step (Kd.F_bound r1) fun k hk hlt => hm k (.inl hk.1) hlt) fun k hk => (ht k hk.2).trans hk.1
/-- A stack at block g: its own blocks are those with a tag. -/
structure Stk (base : Nat) (W : World) (g : Nat) (tag : Nat → Nat) (fs : List Fr) (v : Value) (cells : List Value) : Prop where
  tagged : ∀ k, tag k ≠ 0 → base ≤ k ∧ k < W.heap.size
  box : Box W g v true
  gtag : tag g = 1
  vtag : ∀ b, v.ownBlock = some b → tag b = 2
  row : Loose W 173 4 v fs.length cells
  at_ : ∀ j f, fs[j]? = some f → ∃ A0 c0 A1 c1 vt, FrAt W tag j f cells A0 c0 A1 c1 vt
/-- It is so in every world that has its blocks. -/
theorem Stk.move {base : Nat} {W W' : World} {g : Nat} {tag : Nat → Nat} {fs : List Fr} {v : Value} {cells : List Value} (h : Stk base W g tag fs v cells) (hs : W.heap.size ≤ W'.heap.size) (hm : ∀ k, tag k ≠ 0 → W'.heap[k]? = W.heap[k]?) : Stk base W' g tag fs v cells := by
  obtain ⟨h1, h2, h3, h4, h5, h6⟩ := h
  refine ⟨fun k hk => ⟨(h1 k hk).1, Nat.lt_of_lt_of_le (h1 k hk).2 hs⟩, (hm g (by omega)).trans h2, h3, h4, h5.move fun k hk => hm k (by have := h4 k hk; omega), fun j f hj => ?_⟩
  obtain ⟨A0, c0, A1, c1, vt, hf⟩ := h6 j f hj
  exact ⟨A0, c0, A1, c1, vt, hf.move (fun k hk _ => hm k (by omega)) (fun _ _ => rfl) (fun _ _ => rfl)⟩
theorem Stk.below {base : Nat} {W W' : World} {g : Nat} {tag : Nat → Nat} {fs : List Fr} {v : Value} {cells : List Value} (h : Stk base W g tag fs v cells) (hb : Below W.heap.size W W') : Stk base W' g tag fs v cells :=
  h.move hb.size fun k hk => hb.block k (h.tagged k hk).2
theorem Stk.kept {base : Nat} {W W' : World} {g : Nat} {tag : Nat → Nat} {fs : List Fr} {v : Value} {cells : List Value} {D : Nat → Prop} (h : Stk base W g tag fs v cells) (hk : Kept W W' D) (hd : ∀ k, tag k ≠ 0 → ¬ D k) : Stk base W' g tag fs v cells :=
  h.move hk.1 fun k htk => hk.2 k (h.tagged k htk).2 (hd k htk)
/-- What a call of a method leaves; v' is the frames' slice. -/
def AfterV (base : Nat) (W : World) (g : Nat) (tag : Nat → Nat) (fs' : List Fr) (v' : Value) (W' : World) : Prop :=
  ∃ tag' cells', Stk base W' g tag' fs' v' cells' ∧ Kept W W' (fun k => tag k ≠ 0) ∧ Below base W W' ∧ (∀ k, tag' k ≠ 0 → tag k ≠ 0 ∨ W.heap.size ≤ k) ∧ ∀ k, tag k = 3 → W'.heap[k]? = W.heap[k]? ∧ tag' k = 3
def After (base : Nat) (W : World) (g : Nat) (tag : Nat → Nat) (fs' : List Fr) (W' : World) : Prop := ∃ v', AfterV base W g tag fs' v' W'
theorem AfterV.any {base : Nat} {W W' : World} {g : Nat} {tag : Nat → Nat} {fs : List Fr} {v : Value} (h : AfterV base W g tag fs v W') : After base W g tag fs W' := ⟨v, h⟩
theorem AfterV.same {base : Nat} {W W' : World} {g : Nat} {tag : Nat → Nat} {fs : List Fr} {v : Value} {cells : List Value} (h : Stk base W g tag fs v cells) (hb : Below W.heap.size W W') (hbase : base ≤ W.heap.size) : AfterV base W g tag fs v W' :=
  ⟨tag, cells, h.below hb, Kept.of_below hb _, hb.mono hbase, (fun k hk => .inl hk), fun k hk => ⟨hb.block k (h.tagged k (by omega)).2, hk⟩⟩
theorem After.same {base : Nat} {W W' : World} {g : Nat} {tag : Nat → Nat} {fs : List Fr} {v : Value} {cells : List Value} (h : Stk base W g tag fs v cells) (hb : Below W.heap.size W W') (hbase : base ≤ W.heap.size) : After base W g tag fs W' := (AfterV.same h hb hbase).any
theorem AfterV.then_ {base : Nat} {W W1 W2 : World} {g : Nat} {tag tag1 : Nat → Nat} {fs2 : List Fr} {v2 : Value} (hk : Kept W W1 (fun k => tag k ≠ 0)) (hb : Below base W W1) (ht : ∀ k, tag1 k ≠ 0 → tag k ≠ 0 ∨ W.heap.size ≤ k)
    (h3 : ∀ k, tag k = 3 → W1.heap[k]? = W.heap[k]? ∧ tag1 k = 3) (h2 : AfterV base W1 g tag1 fs2 v2 W2) : AfterV base W g tag fs2 v2 W2 := by
  obtain ⟨tag2, cells2, hs2, hk2, hb2, ht2, h4⟩ := h2
  refine ⟨tag2, cells2, hs2, hk.then_ hk2 ht, hb.trans hb2, fun k hk3 => ?_, fun k hk3 => ?_⟩
  · rcases ht2 k hk3 with h | h
    · exact ht k h
    · exact .inr (Nat.le_trans hb.size h)
  · obtain ⟨a, b⟩ := h3 k hk3
    obtain ⟨c, d⟩ := h4 k b
    exact ⟨c.trans a, d⟩
theorem After.then_ {base : Nat} {W W1 W2 : World} {g : Nat} {tag tag1 : Nat → Nat} {fs2 : List Fr} (hk : Kept W W1 (fun k => tag k ≠ 0)) (hb : Below base W W1) (ht : ∀ k, tag1 k ≠ 0 → tag k ≠ 0 ∨ W.heap.size ≤ k)
    (h3 : ∀ k, tag k = 3 → W1.heap[k]? = W.heap[k]? ∧ tag1 k = 3) (h2 : After base W1 g tag1 fs2 W2) : After base W g tag fs2 W2 := by
  obtain ⟨v2, h2⟩ := h2
  exact ⟨v2, AfterV.then_ hk hb ht h3 h2⟩
/-! ### a row's cells; a cell of it is written -/
theorem loose_cell {W : World} {e size b n cap : Nat} {cells : List Value} (h : Loose W e size (.slice (some ⟨b, 0, none⟩) n cap) n cells) (i : Nat) (u : Value) (hi : cells[i]? = some u) : W.cell? ⟨b, i, none⟩ = some u := by
  have := (Loose.get h).2.2 _ rfl i u hi
  rwa [add_plain] at this
theorem loose_free {W : World} {e size b n cap : Nat} {cells : List Value} (h : Loose W e size (.slice (some ⟨b, 0, none⟩) n cap) n cells) (i : Nat) : W.frozen? ⟨b, i, none⟩ = false := by
  obtain ⟨cs, hb⟩ := h.typed b rfl
  exact blk_frozen hb i
theorem loose_set {W : World} {e size b n cap : Nat} {cells : List Value} (h : Loose W e size (.slice (some ⟨b, 0, none⟩) n cap) n cells) (i : Nat) (u : Value) : Loose (W.setCell ⟨b, i, none⟩ u) e size (.slice (some ⟨b, 0, none⟩) n cap) n (cells.set i u) := by
  obtain ⟨hl, h⟩ := h
  refine ⟨by rw [List.length_set, hl], ?_⟩
  rcases h with ⟨h2, _⟩ | ⟨g, cap', cur, h2, hg, hn, hm, hs, ht⟩
  · injection h2 with h2
    cases h2
  · injection h2 with h2 h3 h4
    injection h2 with h2
    injection h2 with h2
    subst h2 h4
    refine .inr ⟨b, cap, cur.setIfInBounds i u, rfl, blk_set hg i u, hn, hm, by rw [Array.size_setIfInBounds]; exact hs, ?_⟩
    rw [Array.toList_setIfInBounds, List.take_set, ht]
theorem set_other {W : World} {p : Addr} {u : Value} (k : Nat) (h : k ≠ p.block) : (W.setCell p u).heap[k]? = W.heap[k]? := Below.heap_setCell W p u k h
theorem below_set1 {B : Nat} {w W : World} (h : Below B w W) {p : Addr} (hp : B ≤ p.block) (u : Value) : Below B w (W.setCell p u) := h.setCell hp u
end Go.Proofs.Ytkpjdkmggbelfaa.Operand
