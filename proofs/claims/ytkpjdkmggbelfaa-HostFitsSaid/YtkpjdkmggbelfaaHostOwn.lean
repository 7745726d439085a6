/- What a queue owns: copies of answers and of calls. -/
import Derived.Test.YtkpjdkmggbelfaaHostClone
import Derived.Laws.Rows
namespace Go.Proofs.Ytkpjdkmggbelfaa.Host
open Go.RowKit Go.Proofs.YtkpjdkmggbelfaaW.PrintWords Go.Proofs.YtkpjdkmggbelfaaW.PrintLast Go.Proofs.YtkpjdkmggbelfaaW.PrintMore Go.Proofs.Ytkpjdkmggbelfaa.Mem Go.Proofs.Ytkpjdkmggbelfaa.PHostPlays
set_option linter.unusedVariables false
set_option linter.unusedSimpArgs false
theorem Row.words {W : World} {ok ok' : Nat → Prop} {v : Value} {l : List Int} (h : Row kw 113 W ok v l) : Row kw 113 W ok' v l := by
  obtain ⟨rows, hl, hL, hf⟩ := h
  exact ⟨rows, hl, hL, fun j x c hx hc => fun W' _ => by
    have h2 := Kd.FK_now (hf j x c hx hc)
    exact h2⟩
theorem words_new {w w1 : World} {ok : Nat → Prop} {v : Value} {l : List Int} (h : Row kw 113 w1 ok v l) (hn : ∀ b, v.ownBlock = some b → w.heap.size ≤ b) : ∃ A c, v = .slice A l.length c ∧ l.length ≤ c ∧ Kd.F kw w1 (fun k => w.heap.size ≤ k ∧ k < w1.heap.size) A l.length l := by
  obtain ⟨A, c, rfl⟩ := h.one
  have h2 := Row.words (ok' := fun _ => False) h
  obtain ⟨_, hc, hF⟩ := h2.F
  exact ⟨A, c, rfl, hc, Kd.F_mono hF fun k hk => hk.elim (fun e => e.elim) fun e => ⟨hn k e, h.lt k e⟩⟩
theorem F_of_C {w : World} {A : Option Addr} {l : List Int} (h : kw.C w A l.length l) : Kd.F kw w (fun k => k < w.heap.size) A l.length l := Kd.C_F (Kd.heap_int _) h
def OwnAnswer (w : World) (x : S109) (e : Ending) (w' : World) : Prop := ∃ A c, e = .returned (.agg #[.bool x.f0, .slice A x.f1.length c]) ∧ x.f1.length ≤ c ∧ Kd.F kw w' (fun k => w.heap.size ≤ k ∧ k < w'.heap.size) A x.f1.length x.f1 ∧ Below w.heap.size w w'
def OwnCall (w : World) (x : S156) (e : Ending) (w' : World) : Prop := ∃ A c, e = .returned (.agg #[.string x.f0, .slice A x.f1.length c]) ∧ x.f1.length ≤ c ∧ Kd.F kw w' (fun k => w.heap.size ≤ k ∧ k < w'.heap.size) A x.f1.length x.f1 ∧ Below w.heap.size w w'
set_option maxRecDepth 100000 in
set_option maxHeartbeats 4000000 in
theorem ownAnswer_calls (w : World) (x : S109) (A : Option Addr) (c : Nat) (h : kw.C w A x.f1.length x.f1) (hl : x.f1.length ≤ 17592186043904) : Calls Try.prog 59 #[.agg #[.bool x.f0, .slice A x.f1.length c]] w (OwnAnswer w x) := by
  have hu := Try.underlying109
  have HB0 := Aside0.mk ((below_alloc (Below.refl w.heap.size w) (.cells #[.bool x.f0, .slice A x.f1.length c] 109)).alloc (by rw [World.size_alloc]; omega) (.cells #[.bool false, .slice none 0 0] 109))
  have CL := Aside0.mk (clone_words A c x.f1 _ _ (F_of_C (Kd.C_below h HB0.out)) hl)
  have BX := Aside0.mk ((Below.heap_alloc (w.alloc (.cells #[.bool x.f0, .slice A x.f1.length c] 109)) (.cells #[.bool false, .slice none 0 0] 109) w.heap.size (by rw [World.size_alloc]; omega)).trans (heap_alloc_new w (.cells #[.bool x.f0, .slice A x.f1.length c] 109)))
  have BY : Aside0 (((w.alloc (.cells #[.bool x.f0, .slice A x.f1.length c] 109)).alloc (.cells #[.bool false, .slice none 0 0] 109)).heap[w.heap.size + 1]? = some (.cells #[.bool false, .slice none 0 0] 109 (0, 0))) := by
    have := heap_alloc_new (w.alloc (.cells #[.bool x.f0, .slice A x.f1.length c] 109)) (.cells #[.bool false, .slice none 0 0] 109)
    rw [World.size_alloc] at this
    exact Aside0.mk this
  clear h hl
  go_enter Try.func59, Try.ntmps59
  go_wp2_with (first
    | (go_at_call 82
       (with_reducible refine CL.out.mono ?_)
       rintro e w1 ⟨v, rfl, hr, hn, hb⟩
       have hbx : w1.heap[w.heap.size]? = some (.cells #[.bool x.f0, .slice A x.f1.length c] 109 (0, 0)) := (hb.block _ (blk_lt BX.out)).trans BX.out
       have hby : w1.heap[w.heap.size + 1]? = some (.cells #[.bool false, .slice none 0 0] 109 (0, 0)) := (hb.block _ (blk_lt BY.out)).trans BY.out
       have x0 : w1.cell? ⟨w.heap.size, 0, none⟩ = some (.bool x.f0) := (blk_cell hbx 0).trans rfl
       have x1 : w1.cell? ⟨w.heap.size, 1, none⟩ = some (.slice A x.f1.length c) := (blk_cell hbx 1).trans rfl
       have f1 := blk_frozen hbx 1
       have y0 : w1.cell? ⟨w.heap.size + 1, 0, none⟩ = some (.bool false) := (blk_cell hby 0).trans rfl
       have y1 : w1.cell? ⟨w.heap.size + 1, 1, none⟩ = some (.slice none 0 0) := (blk_cell hby 1).trans rfl
       have g0 := blk_frozen hby 0
       have g1 := blk_frozen hby 1
       obtain ⟨A2, c2, rfl⟩ := hr.one
       have R := Aside0.mk hr
       have NB := Aside0.mk (show ∀ b, (Value.slice A2 x.f1.length c2).ownBlock = some b → w.heap.size + 2 ≤ b from fun b h => by have := hn b h; rw [World.size_alloc, World.size_alloc] at this; omega)
       have HB := Aside0.mk (below_then HB0.out HB0.out.size hb)
       have BY1 := Aside0.mk hby
       clear hr hn hb hbx hby)
    | fail)
  have z1 := blk_set (blk_set (blk_far BY1.out (p := ⟨w.heap.size, 1, none⟩) (by show w.heap.size + 1 ≠ w.heap.size; omega) (.slice A2 x.f1.length c2)) 0 (.bool x.f0)) 1 (.slice A2 x.f1.length c2)
  have z2 : ((((w1.setCell ⟨w.heap.size, 1, none⟩ (.slice A2 x.f1.length c2)).setCell ⟨w.heap.size + 1, 0, none⟩ (.bool x.f0)).setCell ⟨w.heap.size + 1, 1, none⟩ (.slice A2 x.f1.length c2))).heap[w.heap.size + 1]? = some (.cells #[.bool x.f0, .slice A2 x.f1.length c2] 109 (0, 0)) := z1
  (try simp only [Exit.inBlock, Exit.then])
  refine bodyPost_ret (v := .agg #[.bool x.f0, .slice A2 x.f1.length c2]) ?_ rfl ?_
  · exact results_cell_row rfl _ _ (w.heap.size + 1) 109 #[.bool x.f0, .slice A2 x.f1.length c2] (0, 0) _ rfl z2 hu rfl (by kernel_rfl)
  · have hF : Kd.F kw w1 (fun k => w.heap.size + 2 ≤ k ∧ k < w1.heap.size) A2 x.f1.length x.f1 := by
      have h2 := Row.words (ok' := fun _ => False) R.out
      exact Kd.F_mono h2.F.2.2 fun k hk => hk.elim (fun e => e.elim) fun e => ⟨NB.out k e, R.out.lt k e⟩
    refine ⟨A2, c2, rfl, R.out.F.2.1, ?_, ((HB.out.setCell (Nat.le_refl _) _).setCell (Nat.le_succ _) _).setCell (Nat.le_succ _) _⟩
    have hs : (((w1.setCell ⟨w.heap.size, 1, none⟩ (.slice A2 x.f1.length c2)).setCell ⟨w.heap.size + 1, 0, none⟩ (.bool x.f0)).setCell ⟨w.heap.size + 1, 1, none⟩ (.slice A2 x.f1.length c2)).heap.size = w1.heap.size := by simp [World.setCell]
    rw [hs]
    exact Kd.F_mono (Kd.F_far (Kd.F_far (Kd.F_far hF (p := ⟨w.heap.size, 1, none⟩) (fun k hk => by show k ≠ w.heap.size; omega) _) (p := ⟨w.heap.size + 1, 0, none⟩) (fun k hk => by show k ≠ w.heap.size + 1; omega) _) (p := ⟨w.heap.size + 1, 1, none⟩) (fun k hk => by show k ≠ w.heap.size + 1; omega) _) fun k hk => ⟨by omega, hk.2⟩
set_option maxRecDepth 100000 in
set_option maxHeartbeats 4000000 in
theorem ownCall_calls (w : World) (x : S156) (A : Option Addr) (c : Nat) (h : kw.C w A x.f1.length x.f1) (hl : x.f1.length ≤ 17592186043904) : Calls Try.prog 67 #[.agg #[.string x.f0, .slice A x.f1.length c]] w (OwnCall w x) := by
  have hu := Try.underlying156
  have HB0 := Aside0.mk ((below_alloc (Below.refl w.heap.size w) (.cells #[.string x.f0, .slice A x.f1.length c] 156)).alloc (by rw [World.size_alloc]; omega) (.cells #[.string ⟨#[]⟩, .slice none 0 0] 156))
  have CL := Aside0.mk (clone_words A c x.f1 _ _ (F_of_C (Kd.C_below h HB0.out)) hl)
  have BX := Aside0.mk ((Below.heap_alloc (w.alloc (.cells #[.string x.f0, .slice A x.f1.length c] 156)) (.cells #[.string ⟨#[]⟩, .slice none 0 0] 156) w.heap.size (by rw [World.size_alloc]; omega)).trans (heap_alloc_new w (.cells #[.string x.f0, .slice A x.f1.length c] 156)))
  have BY : Aside0 (((w.alloc (.cells #[.string x.f0, .slice A x.f1.length c] 156)).alloc (.cells #[.string ⟨#[]⟩, .slice none 0 0] 156)).heap[w.heap.size + 1]? = some (.cells #[.string ⟨#[]⟩, .slice none 0 0] 156 (0, 0))) := by
    have := heap_alloc_new (w.alloc (.cells #[.string x.f0, .slice A x.f1.length c] 156)) (.cells #[.string ⟨#[]⟩, .slice none 0 0] 156)
    rw [World.size_alloc] at this
    exact Aside0.mk this
  clear h hl
  go_enter Try.func67, Try.ntmps67
  go_wp2_with (first
    | (go_at_call 82
       (with_reducible refine CL.out.mono ?_)
       rintro e w1 ⟨v, rfl, hr, hn, hb⟩
       have hbx : w1.heap[w.heap.size]? = some (.cells #[.string x.f0, .slice A x.f1.length c] 156 (0, 0)) := (hb.block _ (blk_lt BX.out)).trans BX.out
       have hby : w1.heap[w.heap.size + 1]? = some (.cells #[.string ⟨#[]⟩, .slice none 0 0] 156 (0, 0)) := (hb.block _ (blk_lt BY.out)).trans BY.out
       have x0 : w1.cell? ⟨w.heap.size, 0, none⟩ = some (.string x.f0) := (blk_cell hbx 0).trans rfl
       have x1 : w1.cell? ⟨w.heap.size, 1, none⟩ = some (.slice A x.f1.length c) := (blk_cell hbx 1).trans rfl
       have f1 := blk_frozen hbx 1
       have y0 : w1.cell? ⟨w.heap.size + 1, 0, none⟩ = some (.string ⟨#[]⟩) := (blk_cell hby 0).trans rfl
       have y1 : w1.cell? ⟨w.heap.size + 1, 1, none⟩ = some (.slice none 0 0) := (blk_cell hby 1).trans rfl
       have g0 := blk_frozen hby 0
       have g1 := blk_frozen hby 1
       obtain ⟨A2, c2, rfl⟩ := hr.one
       have R := Aside0.mk hr
       have NB := Aside0.mk (show ∀ b, (Value.slice A2 x.f1.length c2).ownBlock = some b → w.heap.size + 2 ≤ b from fun b h => by have := hn b h; rw [World.size_alloc, World.size_alloc] at this; omega)
       have HB := Aside0.mk (below_then HB0.out HB0.out.size hb)
       have BY1 := Aside0.mk hby
       clear hr hn hb hbx hby)
    | fail)
  have z1 := blk_set (blk_set (blk_far BY1.out (p := ⟨w.heap.size, 1, none⟩) (by show w.heap.size + 1 ≠ w.heap.size; omega) (.slice A2 x.f1.length c2)) 0 (.string x.f0)) 1 (.slice A2 x.f1.length c2)
  have z2 : ((((w1.setCell ⟨w.heap.size, 1, none⟩ (.slice A2 x.f1.length c2)).setCell ⟨w.heap.size + 1, 0, none⟩ (.string x.f0)).setCell ⟨w.heap.size + 1, 1, none⟩ (.slice A2 x.f1.length c2))).heap[w.heap.size + 1]? = some (.cells #[.string x.f0, .slice A2 x.f1.length c2] 156 (0, 0)) := z1
  (try simp only [Exit.inBlock, Exit.then])
  refine bodyPost_ret (v := .agg #[.string x.f0, .slice A2 x.f1.length c2]) ?_ rfl ?_
  · exact results_cell_row rfl _ _ (w.heap.size + 1) 156 #[.string x.f0, .slice A2 x.f1.length c2] (0, 0) _ rfl z2 hu rfl (by kernel_rfl)
  · have hF : Kd.F kw w1 (fun k => w.heap.size + 2 ≤ k ∧ k < w1.heap.size) A2 x.f1.length x.f1 := by
      have h2 := Row.words (ok' := fun _ => False) R.out
      exact Kd.F_mono h2.F.2.2 fun k hk => hk.elim (fun e => e.elim) fun e => ⟨NB.out k e, R.out.lt k e⟩
    refine ⟨A2, c2, rfl, R.out.F.2.1, ?_, ((HB.out.setCell (Nat.le_refl _) _).setCell (Nat.le_succ _) _).setCell (Nat.le_succ _) _⟩
    have hs : (((w1.setCell ⟨w.heap.size, 1, none⟩ (.slice A2 x.f1.length c2)).setCell ⟨w.heap.size + 1, 0, none⟩ (.string x.f0)).setCell ⟨w.heap.size + 1, 1, none⟩ (.slice A2 x.f1.length c2)).heap.size = w1.heap.size := by simp [World.setCell]
    rw [hs]
    exact Kd.F_mono (Kd.F_far (Kd.F_far (Kd.F_far hF (p := ⟨w.heap.size, 1, none⟩) (fun k hk => by show k ≠ w.heap.size; omega) _) (p := ⟨w.heap.size + 1, 0, none⟩) (fun k hk => by show k ≠ w.heap.size + 1; omega) _) (p := ⟨w.heap.size + 1, 1, none⟩) (fun k hk => by show k ≠ w.heap.size + 1; omega) _) fun k hk => ⟨by omega, hk.2⟩
end Go.Proofs.Ytkpjdkmggbelfaa.Host
