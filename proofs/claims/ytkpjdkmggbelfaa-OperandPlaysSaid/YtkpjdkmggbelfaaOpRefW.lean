/- The walks of the reference's Open, Push, Kill, Pop. -/
import Derived.Test.YtkpjdkmggbelfaaOpRef
import Derived.Outline
namespace Go.Proofs.Ytkpjdkmggbelfaa.Operand
open Go.RowKit Go.Proofs.YtkpjdkmggbelfaaW.PrintWords Go.Proofs.YtkpjdkmggbelfaaW.PrintLast Go.Proofs.YtkpjdkmggbelfaaW.PrintMore Go.Proofs.Ytkpjdkmggbelfaa.Mem
set_option linter.unusedVariables false
set_option linter.unusedSimpArgs false
theorem info183 : (Try.prog.info? 183).map (fun i => (i.zero, i.size, i.bytes)) = some (some (.agg #[.slice none 0 0, .slice none 0 0, .slice none 0 0, .bool false]), 4, 80) := by kernel_rfl
/-- What is new since is only read from now on. -/
def newTag (W W1 : World) (tag : Nat → Nat) (k : Nat) : Nat := if W.heap.size ≤ k ∧ k < W1.heap.size then 3 else tag k
theorem newTag_old {W W1 : World} {tag : Nat → Nat} : ∀ k, k < W.heap.size → newTag W W1 tag k = tag k := fun k hk => if_neg (by omega)
theorem newTag_new {W W1 : World} {tag : Nat → Nat} : ∀ k, newTag W W1 tag k ≠ 0 → tag k ≠ 0 ∨ W.heap.size ≤ k ∧ k < W1.heap.size := fun k hk => by
  by_cases h : W.heap.size ≤ k ∧ k < W1.heap.size
  · exact .inr h
  · exact .inl (by rwa [newTag, if_neg h] at hk)
theorem rd_up {base : Nat} {W W1 : World} {tag : Nat → Nat} {A : Option Addr} {c : Nat} {l : List Int} (h : Rd base W tag A c l) (hb : Below W.heap.size W W1) (hbase : base ≤ W.heap.size) (ht : ∀ k, tag k ≠ 0 → base ≤ k ∧ k < W.heap.size) : Rd base W1 (newTag W W1 tag) A c l :=
  h.move (fun k hk => hb.block k (by omega)) fun k hk => ⟨hb.block k (ht k (by omega)).2, by rw [newTag_old k (ht k (by omega)).2]; exact hk⟩
theorem rd_new {base : Nat} {W W1 : World} {tag : Nat → Nat} {A : Option Addr} {n c : Nat} {l : List Int} (h : Loose W1 5 1 (.slice A n c) l.length (nums .u8 l)) (hn : ∀ k, (Value.slice A n c).ownBlock = some k → W.heap.size ≤ k) : n = l.length ∧ Rd base W1 (newTag W W1 tag) A c l := by
  obtain ⟨q0, q1, q2⟩ := Loose.F (h1 := fun _ => rfl) (ok := fun k => k < base ∨ newTag W W1 tag k = 3) h (fun k hk => .inr (if_pos ⟨hn k hk, h.lt k hk⟩))
  exact ⟨q0, q1, q2⟩
def RVoid (base : Nat) (w : World) (g : Nat) (tag : Nat → Nat) (fs : List Fr) (e : Ending) (w' : World) : Prop := e = .returned (.tuple #[]) ∧ RAfter base w g tag fs w'
section
variable (base : Nat) (w : World) (g : Nat) (tag : Nat → Nat) (fs gs : List Fr) (f : Fr) (v : Value) (cells : List Value)
set_option maxRecDepth 100000 in
set_option maxHeartbeats 4000000 in
theorem ROpen_calls (h : RStk base w g tag fs v cells) (hn : fs.length ≤ 1000000) (A0 : Option Addr) (c0 : Nat) (l : List Int) (h0 : Rd base w tag A0 c0 l) (A1 : Option Addr) (c1 : Nat) (e : List Int) (h1 : Rd base w tag A1 c1 e) :
    Calls Try.prog 75 #[.pointer (some ⟨g, 0, none⟩), .slice A0 l.length c0, .slice A1 e.length c1] w (RVoid base w g tag (openM fs l e)) := by
  have H := Aside0.mk h
  have HN := Aside0.mk hn
  have R0 := Aside0.mk h0
  have R1 := Aside0.mk h1
  have hu183 := Try.underlying183
  obtain ⟨A, c, rfl⟩ := row_one h.row
  have z0 := h.box.c0
  clear h hn h0 h1
  go_enter Try.func75, Try.ntmps75
  go_wp2_with (first
    | (at_builtin
       refine loose_append rfl (.tmp 10) (.tmp 14) 129 183 (.agg #[.slice none 0 0, .slice none 0 0, .slice none 0 0, .bool false]) 4 80 rfl Try.underlying129 info183 rfl (by decide) (by decide) (.slice A fs.length c) fs.length cells (some ⟨w.heap.size, 0, none⟩) 1 1 [.slice A0 l.length c0, .slice A1 e.length c1, .slice none 0 0, .bool false] rfl rfl ?cO ?cR ?cL ?_
       case cO => exact (H.out.row.move fun k hk => Below.heap_alloc w _ k (H.out.row.lt k hk))
       case cR => exact lit_src w 183 4 _ _ _ _ rfl rfl rfl rfl rfl
       case cL => have := HN.out; omega
       intro v1 w3 h1 h2 h3
       obtain ⟨x2, y2, rfl⟩ := row_one h1
       have hbox : RBox w3 g (.slice A fs.length c) := (h2.block g (by have := blk_lt H.out.box; rw [World.size_alloc]; omega) fun e => by have := H.out.vtag g e.symm; have := H.out.gtag; omega).trans ((Below.heap_alloc w _ g (blk_lt H.out.box)).trans H.out.box)
       have b0 := hbox.c0
       have b1 := hbox.fz 0
       have H1 := Aside0.mk h1
       have H2 := Aside0.mk h2
       have H3 := Aside0.mk h3
       clear h1 h2 h3 hbox)
    | fail)
  go_end0
  exact ⟨rfl, rstk_open H.out (below_alloc (Below.refl _ _) _) R0.out R1.out H1.out H2.out H3.out⟩
set_option maxRecDepth 100000 in
set_option maxHeartbeats 1000000 in
theorem RPush_none (h : RStk base w g tag [] v cells) (a : Value) : Calls Try.prog 77 #[.pointer (some ⟨g, 0, none⟩), a] w (RVoid base w g tag []) := by
  obtain ⟨A, c, rfl, hbox⟩ := rstk_empty h
  have H := Aside0.mk h
  have z0 := hbox.c0
  clear h hbox
  go_enter Try.func77, Try.ntmps77
  go_wp2
  go_end0
  exact ⟨rfl, (RAfterV.same H.out (Below.refl _ _)).any⟩
set_option maxRecDepth 100000 in
set_option maxHeartbeats 4000000 in
theorem RPush_some (h : RStk base w g tag (gs ++ [f]) v cells) (hm : gs.length ≤ 1000000) (hn : f.types.length ≤ 1000000) (A : Option Addr) (c : Nat) (l : List Int) (h0 : ku.C w A l.length l) (hl : l.length ≤ 1000000) :
    Calls Try.prog 77 #[.pointer (some ⟨g, 0, none⟩), .slice A l.length c] w (RVoid base w g tag (gs ++ [{ f with types := f.types ++ l }])) := by
  obtain ⟨b, cap, A0, c0, A1, c1, A2, c2, rfl, hL⟩ := rstk_last h
  have H := Aside0.mk h
  have HL := Aside0.mk hL
  have HM := Aside0.mk hm
  have hmI : (gs.length : Int) ≤ 1000000 := by omega
  have HN := Aside0.mk hn
  have HN2 := Aside0.mk hl
  have hu183 := Try.underlying183
  have z0 := hL.box.c0
  have x0 := hL.x0
  have x1 := hL.x1
  have x2 := hL.x2
  have x3 := hL.x3
  have n1 : g ≠ w.heap.size := Nat.ne_of_lt hL.gb
  have n2 : b ≠ w.heap.size := Nat.ne_of_lt hL.bb
  have HBA := Aside0.mk (below_alloc (Below.refl w.heap.size w) (.cells #[.slice A0 f.label.length c0, .slice A1 f.fin.length c1, .slice A2 f.types.length c2, .bool f.dead] 183))
  have S1 := Aside0.mk (raw_scalar (Kd.C_below (Kd.F_now hL.r2.r) HBA.out))
  have S2 := Aside0.mk (Kd.C_below h0 HBA.out)
  have LOC := Aside0.mk (heap_alloc_new w (.cells #[.slice A0 f.label.length c0, .slice A1 f.fin.length c1, .slice A2 f.types.length c2, .bool f.dead] 183))
  clear h hL hm hn hl h0
  go_enter Try.func77, Try.ntmps77
  go_wp2_with (first
    | (at_builtin
       refine loose_append rfl (.tmp 22) (.tmp 24) 32 5 (.int .u8 0) 1 1 rfl Try.underlying32 info5 rfl (by decide) (by decide) (.slice none 0 0) 0 [] A2 f.types.length c2 (nums .u8 f.types) rfl rfl (Loose.nil _ _ _) S1.out (by have := HN.out; omega) ?_
       intro v1 w1 h1 h2 h3
       rw [Nat.zero_add, List.nil_append] at h1
       obtain ⟨y1, d1, rfl⟩ := row_one h1
       have hb1 : Below w.heap.size w w1 := pw_below_grown HBA.out _ HBA.out.size h2 (fun k hk => by cases hk)
       have G1 := Aside0.mk h1
       have G2 := Aside0.mk h2
       have G3 := Aside0.mk h3
       have HB1 := Aside0.mk hb1
       have LOC1 := Aside0.mk ((h2.block w.heap.size (by rw [World.size_alloc]; omega) (by intro e; cases e)).trans LOC.out)
       have SS2 := Aside0.mk (raw_scalar (Kd.C_below S2.out ⟨h2.os, h2.tape, h2.output, h2.size, fun k hk => h2.block k hk (by intro e; cases e)⟩))
       clear h1 h2 h3 hb1)
    | (at_builtin
       refine loose_append rfl (.tmp 25) (.tmp 26) 32 5 (.int .u8 0) 1 1 rfl Try.underlying32 info5 rfl (by decide) (by decide) (.slice y1 f.types.length d1) f.types.length (nums .u8 f.types) A l.length c (nums .u8 l) rfl rfl G1.out SS2.out (by have := HN.out; have := HN2.out; omega) ?_
       intro v2 w2 h1 h2 h3
       obtain ⟨y2, d2, rfl⟩ := row_one h1
       have gl : ∀ k, (Value.slice y1 f.types.length d1).ownBlock = some k → w.heap.size + 1 ≤ k := by
         intro k hk
         rcases G3.out with e | ⟨k', e, hle⟩
         · rw [e] at hk; cases hk
         · rw [e] at hk; injection hk with hk; rw [World.size_alloc] at hle; omega
       have hbk : ∀ k, k < w.heap.size + 1 → w2.heap[k]? = w1.heap[k]? := fun k hk => h2.block k (by have := HB1.out.size; have := blk_lt LOC1.out; omega) (fun e => by have := gl k e.symm; omega)
       have hb2 : Below w.heap.size w w2 := pw_below_grown HB1.out _ HB1.out.size h2 (fun k hk => by have := gl k hk; omega)
       have loc2 := (hbk w.heap.size (by omega)).trans LOC1.out
       have hz : RBox w2 g (.slice (some ⟨b, 0, none⟩) (gs.length + 1) cap) := (hb2.block g HL.out.gb).trans HL.out.box
       have z0 := hz.c0
       have y0 : w2.cell? ⟨w.heap.size, 0, none⟩ = some (.slice A0 f.label.length c0) := (blk_cell loc2 0).trans rfl
       have y1' : w2.cell? ⟨w.heap.size, 1, none⟩ = some (.slice A1 f.fin.length c1) := (blk_cell loc2 1).trans rfl
       have y2' : w2.cell? ⟨w.heap.size, 2, none⟩ = some (.slice A2 f.types.length c2) := (blk_cell loc2 2).trans rfl
       have y3 : w2.cell? ⟨w.heap.size, 3, none⟩ = some (.bool f.dead) := (blk_cell loc2 3).trans rfl
       have yf := blk_frozen loc2 2
       have x0 := cell_of (p := ⟨b, gs.length * 4, none⟩) (hb2.block b HL.out.bb) HL.out.x0
       have x1 := cell_of (p := ⟨b, gs.length * 4 + 1, none⟩) (hb2.block b HL.out.bb) HL.out.x1
       have x2 := cell_of (p := ⟨b, gs.length * 4 + 2, none⟩) (hb2.block b HL.out.bb) HL.out.x2
       have x3 := cell_of (p := ⟨b, gs.length * 4 + 3, none⟩) (hb2.block b HL.out.bb) HL.out.x3
       have xf0 := frozen_of (p := ⟨b, gs.length * 4, none⟩) (hb2.block b HL.out.bb) (HL.out.fz _)
       have xf1 := frozen_of (p := ⟨b, gs.length * 4 + 1, none⟩) (hb2.block b HL.out.bb) (HL.out.fz _)
       have xf2 := frozen_of (p := ⟨b, gs.length * 4 + 2, none⟩) (hb2.block b HL.out.bb) (HL.out.fz _)
       have xf3 := frozen_of (p := ⟨b, gs.length * 4 + 3, none⟩) (hb2.block b HL.out.bb) (HL.out.fz _)
       have K1 := Aside0.mk h1
       have K3 := Aside0.mk (show ∀ k, (Value.slice y2 (f.types.length + l.length) d2).ownBlock = some k → w.heap.size + 1 ≤ k by
         intro k hk
         rcases h3 with e | ⟨k', e, hle⟩
         · rw [e] at hk; have := gl k hk; omega
         · rw [e] at hk; injection hk with hk; have := HB1.out.size; have := blk_lt LOC1.out; omega)
       have HB2 := Aside0.mk hb2
       clear h1 h2 h3 hbk loc2 hb2 hz gl)
    | fail)
  have hi1 : IntKind.i64.wrap ((gs.length : Int) + 1 - 1) = (gs.length : Int) := by rw [i64_is (by omega) (by omega)]; omega
  have hi2 : IntKind.i64.wrap (gs.length : Int) = (gs.length : Int) := i64_is (by omega) (by omega)
  have hi3 : wrap64 (gs.length : Int) = (gs.length : Int) := by unfold wrap64; omega
  go_region
  all_goals
    go_wp2
    go_end0
    refine ⟨rfl, ?_⟩
  have e : f.types.length + l.length = (f.types ++ l).length := List.length_append.symm
  have k1 := K1.out
  rw [← nums_append, e] at k1
  rw [e]
  have hW1 : Below w.heap.size w (w2.setCell ⟨w.heap.size, 2, none⟩ (.slice y2 (f.types ++ l).length d2)) := HB2.out.setCell (Nat.le_refl _) _
  refine ((rstk_set (f' := { f with types := f.types ++ l }) H.out hW1 (newTag w (w2.setCell ⟨w.heap.size, 2, none⟩ (.slice y2 (f.types ++ l).length d2)) tag) ?_ ?_ (rd_up HL.out.r0 hW1 H.out.low H.out.tagged) (rd_up HL.out.r1 hW1 H.out.low H.out.tagged) ?_).below (below_drew (Below.refl _ _))).any
  · exact newTag_old
  · exact newTag_new
  · refine (rd_new (k1.move fun k hk => set_other k ?_) (fun k hk => by have := K3.out k (by rw [e]; exact hk); omega)).2
    have := K3.out k (by rw [e]; exact hk)
    show k ≠ w.heap.size
    omega
end
end Go.Proofs.Ytkpjdkmggbelfaa.Operand
