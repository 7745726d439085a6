/- The walk of Open. -/
import Derived.Test.YtkpjdkmggbelfaaOpMake
import Derived.Deep.RegionLaw
namespace Go.Proofs.Ytkpjdkmggbelfaa.Operand
open Go.RowKit Go.Proofs.YtkpjdkmggbelfaaW.PrintWords Go.Proofs.YtkpjdkmggbelfaaW.PrintLast Go.Proofs.YtkpjdkmggbelfaaW.PrintMore Go.Proofs.Ytkpjdkmggbelfaa.Mem
set_option linter.unusedVariables false
set_option linter.unusedSimpArgs false
theorem info173 : (Try.prog.info? 173).map (fun i => (i.zero, i.size, i.bytes)) = some (some (.agg #[.slice none 0 0, .slice none 0 0, .slice none 0 0, .bool false]), 4, 80) := by kernel_rfl
def VoidPost (base : Nat) (w : World) (g : Nat) (tag : Nat → Nat) (fs : List Fr) (e : Ending) (w' : World) : Prop := e = .returned (.tuple #[]) ∧ After base w g tag fs w'
theorem row_one {w : World} {e size n : Nat} {v : Value} {cells : List Value} (h : Loose w e size v n cells) : ∃ A c, v = .slice A n c := by
  rcases h.2 with ⟨rfl, rfl⟩ | ⟨g, cap, cur, rfl, _⟩
  · exact ⟨none, 0, rfl⟩
  · exact ⟨_, _, rfl⟩
theorem box_grown {base : Nat} {w Wa w3 : World} {g : Nat} {tag : Nat → Nat} {fs : List Fr} {v : Value} {cells : List Value} (h : Stk base w g tag fs v cells) (hW : Below w.heap.size w Wa) (hg : Wa.grownBy w3 v.ownBlock) :
    w3.cell? ⟨g, 0, none⟩ = some v ∧ w3.frozen? ⟨g, 0, none⟩ = false := by
  have hlt := (h.tagged g (by rw [h.gtag]; decide)).2
  have : Box w3 g v true := ((hg.block g (Nat.lt_of_lt_of_le hlt hW.size) fun e => by have := h.vtag g e.symm; have := h.gtag; omega).trans (hW.block g hlt)).trans h.box
  exact ⟨this.c0, this.fz 0⟩
theorem lit_src (W : World) (t size : Nat) (a b c d : Value) (ha : a.oneCell' = true) (hb : b.oneCell' = true) (hc : c.oneCell' = true) (hd : d.oneCell' = true) (hs : size = 4) : RawSrc (W.alloc (.cells #[a, b, c, d] t)) size (some ⟨W.heap.size, 0, none⟩) 1 [a, b, c, d] := by
  subst hs
  refine ⟨rfl, (fun u hu => by simp only [List.mem_cons, List.not_mem_nil, or_false] at hu; rcases hu with rfl | rfl | rfl | rfl <;> assumption), (fun e => by cases e), fun ad e j u hu => ?_⟩
  injection e with e
  subst e
  rw [add_plain, blk_cell (heap_alloc_new W (.cells #[a, b, c, d] t))]
  simpa using hu
set_option maxRecDepth 100000 in
set_option maxHeartbeats 4000000 in
theorem Open_calls (base : Nat) (w : World) (g : Nat) (tag : Nat → Nat) (fs : List Fr) (v : Value) (cells : List Value) (h : Stk base w g tag fs v cells) (hn : fs.length ≤ 1000000)
    (A0 : Option Addr) (c0 : Nat) (l : List Int) (h0 : ku.C w A0 l.length l) (hl0 : l.length ≤ 1000000) (A1 : Option Addr) (c1 : Nat) (e : List Int) (h1 : ku.C w A1 e.length e) (hl1 : e.length ≤ 1000000) :
    Calls Try.prog 37 #[.pointer (some ⟨g, 0, none⟩), .slice A0 l.length c0, .slice A1 e.length c1] w (VoidPost base w g tag (fs ++ [⟨l, e, [], false⟩])) := by
  have H := Aside0.mk h
  have HN := Aside0.mk hn
  have hu173 := Try.underlying173
  have hu171 := Try.underlying171
  have C0 := Aside0.mk (fun (W : World) (hW : Below w.heap.size w W) => clone_calls A0 c0 l W (Kd.C_below h0 hW) hl0)
  have C1 := Aside0.mk (fun (W : World) (hW : Below w.heap.size w W) => clone_calls A1 c1 e W (Kd.C_below h1 hW) hl1)
  have cw : ∀ W : World, Below w.heap.size w W → W.cell? ⟨g, 0, none⟩ = some v ∧ W.frozen? ⟨g, 0, none⟩ = false := fun W hW => ⟨pw_cell_below hW h.box.c0, (hW.frozen (h.tagged g (by rw [h.gtag]; decide)).2).trans (h.box.fz 0)⟩
  have CW := Aside0.mk cw
  have HB := Aside0.mk (Below.refl w.heap.size w)
  clear h hn h0 hl0 h1 hl1 cw
  go_enter Try.func37, Try.ntmps37
  go_wp2_with (first | (go_at_call 71; with_reducible refine (is_calls _ _ _ _ H.out.box).mono ?_; rintro e w' ⟨rfl, rfl⟩) | fail)
  obtain ⟨a0, b0⟩ := CW.out w HB.out
  have HB0 := Aside0.mk (below_drew HB.out)
  clear HB
  have HB := HB0
  clear HB0
  go_region_law (first
    | (refine loose_append_step rfl (.tmp 12) (.tmp 19) 137 173 (.agg #[.slice none 0 0, .slice none 0 0, .slice none 0 0, .bool false]) 4 80 rfl Try.underlying137 info173 rfl (by decide) (by decide) v fs.length cells (some ⟨w2.heap.size, 0, none⟩) 1 1 [.slice x0 l.length y0, .slice x1 e.length y1, .slice none 0 0, .bool false] (by simp [Act.eval, Act.put]) (by simp [Act.eval, Act.put]) ?cO ?cR ?cL ?_
       case cO => exact (H.out.row.move fun k hk => (HB.out.alloc HB.out.size _).block k (H.out.row.lt k hk))
       case cR => exact lit_src w2 173 4 _ _ _ _ rfl rfl rfl rfl rfl
       case cL => have := HN.out; omega
       intro v1 w3 h1 h2 h3
       obtain ⟨x2, y2, rfl⟩ := row_one h1
       obtain ⟨a0, b0⟩ := box_grown H.out (HB.out.alloc HB.out.size _) h2
       have H1 := Aside0.mk h1
       have H2 := Aside0.mk h2
       have H3 := Aside0.mk h3
       clear h1 h2 h3)
    | (go_simp
       go_wp2_with (first
         | (go_at_call 72
            (with_reducible refine (C0.out _ HB.out).mono ?_)
            rintro e1 w1 ⟨v0, rfl, hL0, hn0, hb⟩
            obtain ⟨x0, y0, rfl⟩ := row_one hL0
            have L0 := Aside0.mk hL0
            have N0 := Aside0.mk hn0
            have HB0 := Aside0.mk (below_then HB.out HB.out.size hb)
            clear HB hb hL0 hn0
            have HB := HB0
            clear HB0
            obtain ⟨a0, b0⟩ := CW.out _ HB.out)
         | (go_at_call 72
            (with_reducible refine (C1.out _ HB.out).mono ?_)
            rintro e2 w2 ⟨v0, rfl, hL1, hn1, hb⟩
            obtain ⟨x1, y1, rfl⟩ := row_one hL1
            have L1 := Aside0.mk hL1
            have N1 := Aside0.mk hn1
            have L0' := Aside0.mk (L0.out.move fun k hk => hb.block k (L0.out.lt k hk))
            have HB0 := Aside0.mk (below_then HB.out HB.out.size hb)
            have G1 := Aside0.mk HB.out.size
            clear HB hb hL1 hn1 L0
            have HB := HB0
            clear HB0
            obtain ⟨a0, b0⟩ := CW.out _ HB.out
            have ax : ∀ o, (w2.alloc o).cell? ⟨g, 0, none⟩ = some v := fun o => (CW.out _ (HB.out.alloc HB.out.size o)).1)
         | fail)))
  all_goals
    go_end0
    refine ⟨rfl, stk_open H.out (HB.out.alloc HB.out.size _) (L0'.out.move fun k hk => Below.heap_alloc w2 _ k (L0'.out.lt k hk)) (fun b hb => N0.out b hb) (L1.out.move fun k hk => Below.heap_alloc w2 _ k (L1.out.lt k hk)) (fun b hb => Nat.le_trans G1.out (N1.out b hb)) H1.out H2.out H3.out⟩
end Go.Proofs.Ytkpjdkmggbelfaa.Operand
