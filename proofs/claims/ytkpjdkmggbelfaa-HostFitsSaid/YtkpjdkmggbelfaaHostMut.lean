/- What is told may be written over. -/
import Derived.Test.YtkpjdkmggbelfaaHostLeft
namespace Go.Proofs.Ytkpjdkmggbelfaa.Host
open Go.RowKit Go.Proofs.YtkpjdkmggbelfaaW.PrintWords Go.Proofs.YtkpjdkmggbelfaaW.PrintLast Go.Proofs.YtkpjdkmggbelfaaW.PrintMore Go.Proofs.Ytkpjdkmggbelfaa.Mem Go.Proofs.Ytkpjdkmggbelfaa.PHostPlays
set_option linter.unusedVariables false
set_option linter.unusedSimpArgs false
theorem fk_own {W : World} {ok : Nat → Prop} {x : S109} {c : List Value} (h : Kd.FK k109o W ok x c) : ∃ A c', c = [.bool x.f0, .slice A x.f1.length c'] ∧ Row kw 113 W (fun _ => False) (.slice A x.f1.length c') x.f1 ∧ (0 < x.f1.length → ∀ b, (Value.slice A x.f1.length c').ownBlock = some b → ok b) := by
  obtain ⟨A, c', rfl, hr⟩ := Kd.FK_now h
  refine ⟨A, c', rfl, hr, fun hp b hb => ?_⟩
  apply Classical.byContradiction
  intro hn
  obtain ⟨W', h2, h3⟩ := Kd.emptied W b
  obtain ⟨A', c'', he, hr'⟩ := h W' (fun k hk _ => h2 k (fun e => hn (e ▸ hk)))
  injection (Option.some.inj (show some (Value.slice A x.f1.length c') = some (Value.slice A' x.f1.length c'') from congrArg (fun l => l[1]?) he)) with ha _ hc
  subst ha hc
  obtain ⟨rows, hl, hL, hf⟩ := hr'
  rcases hL.2 with ⟨_, h0⟩ | ⟨g, cap, cur, e, _⟩
  · omega
  · injection e with e
    subst e
    have hgb : g = b := Option.some.inj hb
    obtain ⟨ad, eA, hx⟩ := ReadsOf.at_ (Kd.reads_of_C (enc := Value.int .u64) (d := 0) (h1 := fun _ => rfl) (Kd.F_now (Row.F (d := kw) ⟨rows, hl, hL, hf⟩).2.2)) 0 (by omega) (by omega)
    injection eA with eA
    subst eA
    rw [h3 _ (by rw [← hgb]; rfl)] at hx
    cases hx
def Wd (W : World) (lo : Nat) (A : Option Addr) (m : Nat) : Prop := m ≤ 17592186043904 ∧ (m = 0 ∨ ∃ gw ws, A = some ⟨gw, 0, none⟩ ∧ lo ≤ gw ∧ W.heap[gw]? = some (.cells ws 113 (0, 0)) ∧ ∀ k : Nat, k < m → ∃ x, ws[k]? = some (.int .u64 x))
structure AnsAt (W : World) (lo ga n : Nat) (cur : Array Value) : Prop where
  blk : W.heap[ga]? = some (.cells cur 109 (0, 0))
  low : lo ≤ ga
  cells : ∀ j : Nat, j < n → ∃ t A m c, cur[j * 2]? = some (.bool t) ∧ cur[j * 2 + 1]? = some (.slice A m c) ∧ Wd W lo A m
structure GrAt (W : World) (lo gb n : Nat) (cur : Array Value) : Prop where
  blk : W.heap[gb]? = some (.cells cur 4 (0, 0))
  low : lo ≤ gb
  cells : ∀ j : Nat, j < n → ∃ t, cur[j]? = some (.bool t)
theorem wd_of {W : World} {lo : Nat} {A : Option Addr} {c : Nat} {l : List Int} (h : Row kw 113 W (fun _ => False) (.slice A l.length c) l) (hl : l.length ≤ 17592186043904) (hlo : 0 < l.length → ∀ b, (Value.slice A l.length c).ownBlock = some b → lo ≤ b) : Wd W lo A l.length := by
  refine ⟨hl, ?_⟩
  rcases Nat.eq_zero_or_pos l.length with h0 | hp
  · exact .inl h0
  refine .inr ?_
  have hF := h.F.2.2
  obtain ⟨rows, hrl, hL, hf⟩ := h
  rcases hL.2 with ⟨_, h0⟩ | ⟨g, cap, cur, e, hg, _⟩
  · omega
  · injection e with e
    subst e
    refine ⟨g, cur, rfl, hlo hp g rfl, hg, fun k hk => ?_⟩
    obtain ⟨ad, eA, hx⟩ := ReadsOf.at_ (Kd.reads_of_C (enc := Value.int .u64) (d := 0) (h1 := fun _ => rfl) (Kd.F_now hF)) (k : Int) (by omega) (by omega)
    injection eA with eA
    subst eA
    rw [Int.toNat_natCast, add_plain, blk_cell hg] at hx
    exact ⟨_, hx⟩
theorem ans_of {W : World} {lo : Nat} {ok : Nat → Prop} {A : Option Addr} {c : Nat} {l : List S109} (h : Row k109o 109 W ok (.slice A l.length c) l) (hok : ∀ k, ok k → lo ≤ k) (hlo : ∀ b, (Value.slice A l.length c).ownBlock = some b → lo ≤ b) (hx : ∀ x ∈ l, x.f1.length ≤ 17592186043904) : l.length = 0 ∨ ∃ ga cur, A = some ⟨ga, 0, none⟩ ∧ AnsAt W lo ga l.length cur := by
  obtain ⟨rows, hrl, hL, hf⟩ := h
  rcases hL.2 with ⟨_, h0⟩ | ⟨g, cap, cur, e, hg, hn, hm, hs, ht⟩
  · exact .inl h0
  · injection e with e
    subst e
    refine .inr ⟨g, cur, rfl, hg, hlo g rfl, fun j hj => ?_⟩
    have hr : rows[j]? = some rows[j] := List.getElem?_eq_getElem (by omega)
    have hFK := hf j l[j] rows[j] (List.getElem?_eq_getElem hj) hr
    obtain ⟨A', c', ec, hrow, hin⟩ := fk_own hFK
    have get : ∀ i, i < 2 → cur[j * 2 + i]? = rows[j][i]? := by
      intro i hi
      have h1 := flat_get (rows_len hrl hf) hr i hi
      have h2 : (k109o).sz = 2 := rfl
      rw [h2] at h1
      rw [← h1, ← ht, List.getElem?_take]
      rw [if_pos (by rw [h2]; omega), Array.getElem?_toList]
    refine ⟨l[j].f0, A', l[j].f1.length, c', ?_, ?_, wd_of hrow (hx _ (List.getElem_mem hj)) (fun hp b hb => hok b (hin hp b hb))⟩
    · have := get 0 (by omega)
      rw [ec] at this
      exact this
    · have := get 1 (by omega)
      rw [ec] at this
      exact this
theorem gr_of {W : World} {lo : Nat} {ok : Nat → Prop} {A : Option Addr} {c : Nat} {l : List Bool} (h : Row Kd.bool 4 W ok (.slice A l.length c) l) (hlo : ∀ b, (Value.slice A l.length c).ownBlock = some b → lo ≤ b) : l.length = 0 ∨ ∃ gb cur, A = some ⟨gb, 0, none⟩ ∧ GrAt W lo gb l.length cur := by
  have hF := h.F.2.2
  obtain ⟨rows, hrl, hL, hf⟩ := h
  rcases hL.2 with ⟨_, h0⟩ | ⟨g, cap, cur, e, hg, hn, hm, hs, ht⟩
  · exact .inl h0
  · injection e with e
    subst e
    refine .inr ⟨g, cur, rfl, hg, hlo g rfl, fun j hj => ?_⟩
    obtain ⟨ad, eA, hx⟩ := ReadsOf.at_ (Kd.reads_of_C (enc := Value.bool) (d := false) (h1 := fun _ => rfl) (Kd.F_now hF)) (j : Int) (by omega) (by omega)
    injection eA with eA
    subst eA
    rw [Int.toNat_natCast, add_plain, blk_cell hg] at hx
    exact ⟨_, hx⟩
/-- What is told, written over or not; W5: the world in which it was told. -/
structure MI (W5 wr : World) (lo bl : Nat) (A : Option Addr) (n c : Nat) (A2 : Option Addr) (n2 c2 : Nat) : Prop where
  below : Below lo W5 wr
  box : wr.heap[bl]? = some (.cells #[.slice A n c, .slice A2 n2 c2] 77 (0, 0))
  blo : lo ≤ bl
  ans : n = 0 ∨ ∃ ga cur, A = some ⟨ga, 0, none⟩ ∧ AnsAt wr lo ga n cur
  gr : n2 = 0 ∨ ∃ gb cur, A2 = some ⟨gb, 0, none⟩ ∧ GrAt wr lo gb n2 cur
section
variable {W5 wr : World} {lo bl n c n2 c2 : Nat} {A A2 : Option Addr}
theorem Wd.far {m : Nat} {A' : Option Addr} (h : Wd wr lo A' m) {b off : Nat} {v : Value} {cs : Array Value} {t : Nat} (hb : wr.heap[b]? = some (.cells cs t (0, 0))) (ht : t ≠ 113) : Wd (wr.setCell ⟨b, off, none⟩ v) lo A' m := by
  refine ⟨h.1, h.2.imp id fun ⟨gw, ws, e, hl, hg, hx⟩ => ⟨gw, ws, e, hl, (Below.heap_setCell wr ⟨b, off, none⟩ v gw ?_).trans hg, hx⟩⟩
  rintro rfl
  rw [hg] at hb
  injection hb with hb
  injection hb with _ hb _
  exact ht hb.symm
theorem Wd.put {m : Nat} {A' : Option Addr} (h : Wd wr lo A' m) {b off : Nat} {y : Int} {cs : Array Value} (hb : wr.heap[b]? = some (.cells cs 113 (0, 0))) : Wd (wr.setCell ⟨b, off, none⟩ (.int .u64 y)) lo A' m := by
  refine ⟨h.1, h.2.imp id fun ⟨gw, ws, e, hl, hg, hx⟩ => ?_⟩
  by_cases e2 : gw = b
  · subst e2
    refine ⟨gw, _, e, hl, blk_set hg off (.int .u64 y), fun k hk => ?_⟩
    obtain ⟨x, hx⟩ := hx k hk
    rw [Array.getElem?_setIfInBounds]
    split
    · rename_i h1
      subst h1
      have := (Array.getElem?_eq_some_iff.1 hx).1
      exact ⟨y, by rw [if_pos this]⟩
    · exact ⟨x, hx⟩
  · exact ⟨gw, ws, e, hl, (Below.heap_setCell wr ⟨b, off, none⟩ _ gw e2).trans hg, hx⟩
theorem heap_ne {b b' : Nat} {cs cs' : Array Value} {t t' : Nat} (h : wr.heap[b]? = some (.cells cs t (0, 0))) (h' : wr.heap[b']? = some (.cells cs' t' (0, 0))) (ht : t ≠ t') : b ≠ b' := by
  rintro rfl
  rw [h] at h'
  injection h' with h'
  injection h' with _ h' _
  exact ht h'
theorem MI.set_trap (h : MI W5 wr lo bl A n c A2 n2 c2) {ga : Nat} {cur : Array Value} (ha : AnsAt wr lo ga n cur) (eA : A = some ⟨ga, 0, none⟩) (i : Nat) (t : Bool) : MI W5 (wr.setCell ⟨ga, i * 2, none⟩ (.bool t)) lo bl A n c A2 n2 c2 ∧ AnsAt (wr.setCell ⟨ga, i * 2, none⟩ (.bool t)) lo ga n (cur.setIfInBounds (i * 2) (.bool t)) := by
  have hA : AnsAt (wr.setCell ⟨ga, i * 2, none⟩ (.bool t)) lo ga n (cur.setIfInBounds (i * 2) (.bool t)) := by
    refine ⟨blk_set ha.blk _ _, ha.low, fun j hj => ?_⟩
    obtain ⟨t0, A', m, c', h1, h2, h3⟩ := ha.cells j hj
    have h3' := h3.far (off := i * 2) (v := .bool t) ha.blk (by decide)
    have e2 : (cur.setIfInBounds (i * 2) (.bool t))[j * 2 + 1]? = some (.slice A' m c') := by
      rw [Array.getElem?_setIfInBounds, if_neg (by omega)]
      exact h2
    by_cases e : i = j
    · subst e
      have := (Array.getElem?_eq_some_iff.1 h1).1
      exact ⟨t, A', m, c', by rw [Array.getElem?_setIfInBounds, if_pos rfl, if_pos this], e2, h3'⟩
    · exact ⟨t0, A', m, c', by rw [Array.getElem?_setIfInBounds, if_neg (by omega)]; exact h1, e2, h3'⟩
  refine ⟨⟨h.below.setCell ha.low _, (Below.heap_setCell wr ⟨ga, i * 2, none⟩ _ bl (heap_ne h.box ha.blk (by decide))).trans h.box, h.blo, .inr ⟨ga, _, eA, hA⟩, h.gr.imp id fun ⟨gb, cb, e, hg⟩ => ⟨gb, cb, e, (Below.heap_setCell wr ⟨ga, i * 2, none⟩ _ gb (heap_ne hg.blk ha.blk (by decide))).trans hg.blk, hg.low, hg.cells⟩⟩, hA⟩
theorem MI.set_word (h : MI W5 wr lo bl A n c A2 n2 c2) {ga : Nat} {cur : Array Value} (ha : AnsAt wr lo ga n cur) (eA : A = some ⟨ga, 0, none⟩) {gw : Nat} {ws : Array Value} (hw : wr.heap[gw]? = some (.cells ws 113 (0, 0))) (hl : lo ≤ gw) (k : Nat) (y : Int) : MI W5 (wr.setCell ⟨gw, k, none⟩ (.int .u64 y)) lo bl A n c A2 n2 c2 ∧ AnsAt (wr.setCell ⟨gw, k, none⟩ (.int .u64 y)) lo ga n cur := by
  have hA : AnsAt (wr.setCell ⟨gw, k, none⟩ (.int .u64 y)) lo ga n cur := by
    refine ⟨(Below.heap_setCell wr ⟨gw, k, none⟩ _ ga (heap_ne ha.blk hw (by decide))).trans ha.blk, ha.low, fun j hj => ?_⟩
    obtain ⟨t0, A', m, c', h1, h2, h3⟩ := ha.cells j hj
    exact ⟨t0, A', m, c', h1, h2, h3.put hw⟩
  refine ⟨⟨h.below.setCell hl _, (Below.heap_setCell wr ⟨gw, k, none⟩ _ bl (heap_ne h.box hw (by decide))).trans h.box, h.blo, .inr ⟨ga, _, eA, hA⟩, h.gr.imp id fun ⟨gb, cb, e, hg⟩ => ⟨gb, cb, e, (Below.heap_setCell wr ⟨gw, k, none⟩ _ gb (heap_ne hg.blk hw (by decide))).trans hg.blk, hg.low, hg.cells⟩⟩, hA⟩
theorem MI.set_grow (h : MI W5 wr lo bl A n c A2 n2 c2) {gb : Nat} {cur : Array Value} (hg : GrAt wr lo gb n2 cur) (eA : A2 = some ⟨gb, 0, none⟩) (i : Nat) (t : Bool) : MI W5 (wr.setCell ⟨gb, i, none⟩ (.bool t)) lo bl A n c A2 n2 c2 := by
  have hans : n = 0 ∨ ∃ ga cur, A = some ⟨ga, 0, none⟩ ∧ AnsAt (wr.setCell ⟨gb, i, none⟩ (.bool t)) lo ga n cur := by
    rcases h.ans with h0 | ⟨ga, cu, e, ha⟩
    · exact .inl h0
    · refine .inr ⟨ga, cu, e, (Below.heap_setCell wr ⟨gb, i, none⟩ _ ga (heap_ne ha.blk hg.blk (by decide))).trans ha.blk, ha.low, fun j hj => ?_⟩
      obtain ⟨t0, A', m, c', h1, h2, h3⟩ := ha.cells j hj
      exact ⟨t0, A', m, c', h1, h2, h3.far hg.blk (by decide)⟩
  have hgr : GrAt (wr.setCell ⟨gb, i, none⟩ (.bool t)) lo gb n2 (cur.setIfInBounds i (.bool t)) := by
    refine ⟨blk_set hg.blk _ _, hg.low, fun j hj => ?_⟩
    obtain ⟨t0, h1⟩ := hg.cells j hj
    rw [Array.getElem?_setIfInBounds]
    split
    · rename_i e
      subst e
      have := (Array.getElem?_eq_some_iff.1 h1).1
      exact ⟨t, by rw [if_pos this]⟩
    · exact ⟨t0, h1⟩
  exact ⟨h.below.setCell hg.low _, (Below.heap_setCell wr ⟨gb, i, none⟩ _ bl (heap_ne h.box hg.blk (by decide))).trans h.box, h.blo, hans, .inr ⟨gb, _, eA, hgr⟩⟩
theorem MI.drew (h : MI W5 wr lo bl A n c A2 n2 c2) : MI W5 wr.drew lo bl A n c A2 n2 c2 := ⟨below_drew h.below, h.box, h.blo, h.ans.imp id fun ⟨ga, cur, e, ha⟩ => ⟨ga, cur, e, ha.blk, ha.low, ha.cells⟩, h.gr.imp id fun ⟨gb, cb, e, hg⟩ => ⟨gb, cb, e, hg.blk, hg.low, hg.cells⟩⟩
end
end Go.Proofs.Ytkpjdkmggbelfaa.Host
