/- What a queue owns, in memory: copies of answers and of calls in rows of their own. -/
import Derived.Test.YtkpjdkmggbelfaaHostOwn
namespace Go.Proofs.Ytkpjdkmggbelfaa.Host
open Go.RowKit Go.Proofs.YtkpjdkmggbelfaaW.PrintWords Go.Proofs.YtkpjdkmggbelfaaW.PrintLast Go.Proofs.YtkpjdkmggbelfaaW.PrintMore Go.Proofs.Ytkpjdkmggbelfaa.Mem Go.Proofs.Ytkpjdkmggbelfaa.PHostPlays
set_option linter.unusedVariables false
set_option linter.unusedSimpArgs false
/-- S109 whose numbers lie in a row of their own. -/
def k109o : Kd S109 where
  sz := 2
  E := []
  K w x cs := ∃ A c, cs = [.bool x.f0, .slice A x.f1.length c] ∧ Row kw 113 w (fun _ => False) (.slice A x.f1.length c) x.f1
  M _ _ _ _ _ := False
  K_len := by rintro w x cs ⟨A, c, rfl, _⟩; rfl
  K_one := by
    rintro w x cs ⟨A, c, rfl, _⟩ u hu
    simp only [List.mem_cons, List.not_mem_nil, or_false] at hu
    rcases hu with rfl | rfl <;> rfl
  K_below := by
    rintro w w1 x cs hb ⟨A, c, rfl, h⟩
    exact ⟨A, c, rfl, h.move (fun k hk => hk.elim) fun k hk => hb.block k (h.lt k hk)⟩
  K_of_M h := h.elim
  M_mono _ h := h.elim
  M_bound h := h.elim
  M_move _ h := h.elim
  M_lower _ h := h.elim
theorem k109o_K {w : World} {x : S109} {cs : List Value} (h : k109o.K w x cs) : k109.K w x cs := by
  obtain ⟨A, c, rfl, h⟩ := h
  exact k109_mk w x h.F.2.1 (Kd.F_now h.F.2.2)
theorem k109o_mkF (W : World) (ok : Nat → Prop) (x : S109) {A : Option Addr} {c : Nat} (h : Row kw 113 W (fun _ => False) (.slice A x.f1.length c) x.f1) (hok : ∀ k, (Value.slice A x.f1.length c).ownBlock = some k → ok k) : Kd.FK k109o W ok x [.bool x.f0, .slice A x.f1.length c] :=
  fun W' hW => ⟨A, c, rfl, h.move (fun k hk => hk.elim) fun k hk => hW k (hok k hk) (h.lt k hk)⟩
theorem Row.k109o {W : World} {ok : Nat → Prop} {v : Value} {e : Nat} {l : List S109} (h : Row k109o e W ok v l) : Row k109 e W ok v l := by
  obtain ⟨rows, hl, hL, hf⟩ := h
  exact ⟨rows, hl, hL, fun j x c hx hc => fun W' hW => k109o_K (hf j x c hx hc W' hW)⟩
/-- S156 whose numbers lie in a row of their own. -/
def k156o : Kd S156 where
  sz := 2
  E := []
  K w x cs := ∃ A c, cs = [.string x.f0, .slice A x.f1.length c] ∧ Row kw 113 w (fun _ => False) (.slice A x.f1.length c) x.f1
  M _ _ _ _ _ := False
  K_len := by rintro w x cs ⟨A, c, rfl, _⟩; rfl
  K_one := by
    rintro w x cs ⟨A, c, rfl, _⟩ u hu
    simp only [List.mem_cons, List.not_mem_nil, or_false] at hu
    rcases hu with rfl | rfl <;> rfl
  K_below := by
    rintro w w1 x cs hb ⟨A, c, rfl, h⟩
    exact ⟨A, c, rfl, h.move (fun k hk => hk.elim) fun k hk => hb.block k (h.lt k hk)⟩
  K_of_M h := h.elim
  M_mono _ h := h.elim
  M_bound h := h.elim
  M_move _ h := h.elim
  M_lower _ h := h.elim
theorem k156o_K {w : World} {x : S156} {cs : List Value} (h : k156o.K w x cs) : k156.K w x cs := by
  obtain ⟨A, c, rfl, h⟩ := h
  exact k156_mk w x h.F.2.1 (Kd.F_now h.F.2.2)
theorem k156o_mkF (W : World) (ok : Nat → Prop) (x : S156) {A : Option Addr} {c : Nat} (h : Row kw 113 W (fun _ => False) (.slice A x.f1.length c) x.f1) (hok : ∀ k, (Value.slice A x.f1.length c).ownBlock = some k → ok k) : Kd.FK k156o W ok x [.string x.f0, .slice A x.f1.length c] :=
  fun W' hW => ⟨A, c, rfl, h.move (fun k hk => hk.elim) fun k hk => hW k (hok k hk) (h.lt k hk)⟩
theorem Row.k156o {W : World} {ok : Nat → Prop} {v : Value} {e : Nat} {l : List S156} (h : Row k156o e W ok v l) : Row k156 e W ok v l := by
  obtain ⟨rows, hl, hL, hf⟩ := h
  exact ⟨rows, hl, hL, fun j x c hx hc => fun W' hW => k156o_K (hf j x c hx hc W' hW)⟩
def OwnAnswerR (w : World) (x : S109) (e : Ending) (w' : World) : Prop := ∃ A c, e = .returned (.agg #[.bool x.f0, .slice A x.f1.length c]) ∧ Row kw 113 w' (fun _ => False) (.slice A x.f1.length c) x.f1 ∧ (∀ b, (Value.slice A x.f1.length c).ownBlock = some b → w.heap.size ≤ b) ∧ Below w.heap.size w w'
def OwnCallR (w : World) (x : S156) (e : Ending) (w' : World) : Prop := ∃ A c, e = .returned (.agg #[.string x.f0, .slice A x.f1.length c]) ∧ Row kw 113 w' (fun _ => False) (.slice A x.f1.length c) x.f1 ∧ (∀ b, (Value.slice A x.f1.length c).ownBlock = some b → w.heap.size ≤ b) ∧ Below w.heap.size w w'
set_option maxRecDepth 100000 in
set_option maxHeartbeats 4000000 in
theorem ownAnswer_own (w : World) (x : S109) (A : Option Addr) (c : Nat) (h : kw.C w A x.f1.length x.f1) (hl : x.f1.length ≤ 17592186043904) : Calls Try.prog 59 #[.agg #[.bool x.f0, .slice A x.f1.length c]] w (OwnAnswerR w x) := by
  have hu := Try.underlying109
  have HB0 := Aside0.mk ((below_alloc (Below.refl w.heap.size w) (.cells #[.bool x.f0, .slice A x.f1.length c] 109)).alloc (by rw [World.size_alloc]; omega) (.cells #[.bool false, .slice none 0 0] 109))
  have CL := Aside0.mk (clone_words A c x.f1 _ _ (F_of_C (Kd.C_below h HB0.out)) hl)
  have BX := Aside0.mk ((Below.heap_alloc (w.alloc (.cells #[.bool x.f0, .slice A x.f1.length c] 109)) (.cells #[.bool false, .slice none 0 0] 109) w.heap.size (by rw [World.size_alloc]; omega)).trans (heap_alloc_new w (.cells #[.bool x.f0, .slice A x.f1.length c] 109)))
  have BY : Aside0 (((w.alloc (.cells #[.bool x.f0, .slice A x.f1.length c] 109)).alloc (.cells #[.bool false, .slice none 0 0] 109)).heap[w.heap.size + 1]? = some (.cells #[.bool false, .slice none 0 0] 109 (0, 0))) := by
    have := heap_alloc_new (w.alloc (.cells #[.bool x.f0, .slice A x.f1.length c] 109)) (.cells #[.bool false, .slice none 0 0] 109)
    rw [World.size_alloc] at this
    exact Aside0.mk this
  clear h hl
  go_enter Try.func59, Try.ntmps59
  go_wp2_with (first
    | (go_at_call 82
       (with_reducible refine CL.out.mono ?_)
       rintro e w1 ⟨v, rfl, hr, hn, hb⟩
       have hbx : w1.heap[w.heap.size]? = some (.cells #[.bool x.f0, .slice A x.f1.length c] 109 (0, 0)) := (hb.block _ (blk_lt BX.out)).trans BX.out
       have hby : w1.heap[w.heap.size + 1]? = some (.cells #[.bool false, .slice none 0 0] 109 (0, 0)) := (hb.block _ (blk_lt BY.out)).trans BY.out
       have x0 : w1.cell? ⟨w.heap.size, 0, none⟩ = some (.bool x.f0) := (blk_cell hbx 0).trans rfl
       have x1 : w1.cell? ⟨w.heap.size, 1, none⟩ = some (.slice A x.f1.length c) := (blk_cell hbx 1).trans rfl
       have f1 := blk_frozen hbx 1
       have y0 : w1.cell? ⟨w.heap.size + 1, 0, none⟩ = some (.bool false) := (blk_cell hby 0).trans rfl
       have y1 : w1.cell? ⟨w.heap.size + 1, 1, none⟩ = some (.slice none 0 0) := (blk_cell hby 1).trans rfl
       have g0 := blk_frozen hby 0
       have g1 := blk_frozen hby 1
       obtain ⟨A2, c2, rfl⟩ := hr.one
       have R := Aside0.mk hr
       have NB := Aside0.mk (show ∀ b, (Value.slice A2 x.f1.length c2).ownBlock = some b → w.heap.size + 2 ≤ b from fun b h => by have := hn b h; rw [World.size_alloc, World.size_alloc] at this; omega)
       have HB := Aside0.mk (below_then HB0.out HB0.out.size hb)
       have BY1 := Aside0.mk hby
       clear hr hn hb hbx hby)
    | fail)
  have z1 := blk_set (blk_set (blk_far BY1.out (p := ⟨w.heap.size, 1, none⟩) (by show w.heap.size + 1 ≠ w.heap.size; omega) (.slice A2 x.f1.length c2)) 0 (.bool x.f0)) 1 (.slice A2 x.f1.length c2)
  have z2 : ((((w1.setCell ⟨w.heap.size, 1, none⟩ (.slice A2 x.f1.length c2)).setCell ⟨w.heap.size + 1, 0, none⟩ (.bool x.f0)).setCell ⟨w.heap.size + 1, 1, none⟩ (.slice A2 x.f1.length c2))).heap[w.heap.size + 1]? = some (.cells #[.bool x.f0, .slice A2 x.f1.length c2] 109 (0, 0)) := z1
  (try simp only [Exit.inBlock, Exit.then])
  refine bodyPost_ret (v := .agg #[.bool x.f0, .slice A2 x.f1.length c2]) ?_ rfl ?_
  · exact results_cell_row rfl _ _ (w.heap.size + 1) 109 #[.bool x.f0, .slice A2 x.f1.length c2] (0, 0) _ rfl z2 hu rfl (by kernel_rfl)
  · have mv : ∀ k, w.heap.size + 2 ≤ k → (((w1.setCell ⟨w.heap.size, 1, none⟩ (.slice A2 x.f1.length c2)).setCell ⟨w.heap.size + 1, 0, none⟩ (.bool x.f0)).setCell ⟨w.heap.size + 1, 1, none⟩ (.slice A2 x.f1.length c2)).heap[k]? = w1.heap[k]? := fun k hk =>
      (Below.heap_setCell _ ⟨w.heap.size + 1, 1, none⟩ _ k (by show k ≠ w.heap.size + 1; omega)).trans ((Below.heap_setCell _ ⟨w.heap.size + 1, 0, none⟩ _ k (by show k ≠ w.heap.size + 1; omega)).trans (Below.heap_setCell _ ⟨w.heap.size, 1, none⟩ _ k (by show k ≠ w.heap.size; omega)))
    exact ⟨A2, c2, rfl, (Row.words (ok' := fun _ => False) R.out).move (fun k hk => hk.elim) (fun k hk => mv k (NB.out k hk)), (fun b hb => by have := NB.out b hb; omega), ((HB.out.setCell (Nat.le_refl _) _).setCell (Nat.le_succ _) _).setCell (Nat.le_succ _) _⟩
set_option maxRecDepth 100000 in
set_option maxHeartbeats 4000000 in
theorem ownCall_own (w : World) (x : S156) (A : Option Addr) (c : Nat) (h : kw.C w A x.f1.length x.f1) (hl : x.f1.length ≤ 17592186043904) : Calls Try.prog 67 #[.agg #[.string x.f0, .slice A x.f1.length c]] w (OwnCallR w x) := by
  have hu := Try.underlying156
  have HB0 := Aside0.mk ((below_alloc (Below.refl w.heap.size w) (.cells #[.string x.f0, .slice A x.f1.length c] 156)).alloc (by rw [World.size_alloc]; omega) (.cells #[.string ⟨#[]⟩, .slice none 0 0] 156))
  have CL := Aside0.mk (clone_words A c x.f1 _ _ (F_of_C (Kd.C_below h HB0.out)) hl)
  have BX := Aside0.mk ((Below.heap_alloc (w.alloc (.cells #[.string x.f0, .slice A x.f1.length c] 156)) (.cells #[.string ⟨#[]⟩, .slice none 0 0] 156) w.heap.size (by rw [World.size_alloc]; omega)).trans (heap_alloc_new w (.cells #[.string x.f0, .slice A x.f1.length c] 156)))
  have BY : Aside0 (((w.alloc (.cells #[.string x.f0, .slice A x.f1.length c] 156)).alloc (.cells #[.string ⟨#[]⟩, .slice none 0 0] 156)).heap[w.heap.size + 1]? = some (.cells #[.string ⟨#[]⟩, .slice none 0 0] 156 (0, 0))) := by
    have := heap_alloc_new (w.alloc (.cells #[.string x.f0, .slice A x.f1.length c] 156)) (.cells #[.string ⟨#[]⟩, .slice none 0 0] 156)
    rw [World.size_alloc] at this
    exact Aside0.mk this
  clear h hl
  go_enter Try.func67, Try.ntmps67
  go_wp2_with (first
    | (go_at_call 82
       (with_reducible refine CL.out.mono ?_)
       rintro e w1 ⟨v, rfl, hr, hn, hb⟩
       have hbx : w1.heap[w.heap.size]? = some (.cells #[.string x.f0, .slice A x.f1.length c] 156 (0, 0)) := (hb.block _ (blk_lt BX.out)).trans BX.out
       have hby : w1.heap[w.heap.size + 1]? = some (.cells #[.string ⟨#[]⟩, .slice none 0 0] 156 (0, 0)) := (hb.block _ (blk_lt BY.out)).trans BY.out
       have x0 : w1.cell? ⟨w.heap.size, 0, none⟩ = some (.string x.f0) := (blk_cell hbx 0).trans rfl
       have x1 : w1.cell? ⟨w.heap.size, 1, none⟩ = some (.slice A x.f1.length c) := (blk_cell hbx 1).trans rfl
       have f1 := blk_frozen hbx 1
       have y0 : w1.cell? ⟨w.heap.size + 1, 0, none⟩ = some (.string ⟨#[]⟩) := (blk_cell hby 0).trans rfl
       have y1 : w1.cell? ⟨w.heap.size + 1, 1, none⟩ = some (.slice none 0 0) := (blk_cell hby 1).trans rfl
       have g0 := blk_frozen hby 0
       have g1 := blk_frozen hby 1
       obtain ⟨A2, c2, rfl⟩ := hr.one
       have R := Aside0.mk hr
       have NB := Aside0.mk (show ∀ b, (Value.slice A2 x.f1.length c2).ownBlock = some b → w.heap.size + 2 ≤ b from fun b h => by have := hn b h; rw [World.size_alloc, World.size_alloc] at this; omega)
       have HB := Aside0.mk (below_then HB0.out HB0.out.size hb)
       have BY1 := Aside0.mk hby
       clear hr hn hb hbx hby)
    | fail)
  have z1 := blk_set (blk_set (blk_far BY1.out (p := ⟨w.heap.size, 1, none⟩) (by show w.heap.size + 1 ≠ w.heap.size; omega) (.slice A2 x.f1.length c2)) 0 (.string x.f0)) 1 (.slice A2 x.f1.length c2)
  have z2 : ((((w1.setCell ⟨w.heap.size, 1, none⟩ (.slice A2 x.f1.length c2)).setCell ⟨w.heap.size + 1, 0, none⟩ (.string x.f0)).setCell ⟨w.heap.size + 1, 1, none⟩ (.slice A2 x.f1.length c2))).heap[w.heap.size + 1]? = some (.cells #[.string x.f0, .slice A2 x.f1.length c2] 156 (0, 0)) := z1
  (try simp only [Exit.inBlock, Exit.then])
  refine bodyPost_ret (v := .agg #[.string x.f0, .slice A2 x.f1.length c2]) ?_ rfl ?_
  · exact results_cell_row rfl _ _ (w.heap.size + 1) 156 #[.string x.f0, .slice A2 x.f1.length c2] (0, 0) _ rfl z2 hu rfl (by kernel_rfl)
  · have mv : ∀ k, w.heap.size + 2 ≤ k → (((w1.setCell ⟨w.heap.size, 1, none⟩ (.slice A2 x.f1.length c2)).setCell ⟨w.heap.size + 1, 0, none⟩ (.string x.f0)).setCell ⟨w.heap.size + 1, 1, none⟩ (.slice A2 x.f1.length c2)).heap[k]? = w1.heap[k]? := fun k hk =>
      (Below.heap_setCell _ ⟨w.heap.size + 1, 1, none⟩ _ k (by show k ≠ w.heap.size + 1; omega)).trans ((Below.heap_setCell _ ⟨w.heap.size + 1, 0, none⟩ _ k (by show k ≠ w.heap.size + 1; omega)).trans (Below.heap_setCell _ ⟨w.heap.size, 1, none⟩ _ k (by show k ≠ w.heap.size; omega)))
    exact ⟨A2, c2, rfl, (Row.words (ok' := fun _ => False) R.out).move (fun k hk => hk.elim) (fun k hk => mv k (NB.out k hk)), (fun b hb => by have := NB.out b hb; omega), ((HB.out.setCell (Nat.le_refl _) _).setCell (Nat.le_succ _) _).setCell (Nat.le_succ _) _⟩
end Go.Proofs.Ytkpjdkmggbelfaa.Host
