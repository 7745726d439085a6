/- slices.Clone at whole numbers, at truths, at answers; what is of its own. -/
import Derived.Test.YtkpjdkmggbelfaaHostRow
import Derived.Test.YtkpjdkmggbelfaaPHostPlaysx2
namespace Go.Proofs.Ytkpjdkmggbelfaa.Host
open Go.RowKit Go.Proofs.YtkpjdkmggbelfaaW.PrintWords Go.Proofs.YtkpjdkmggbelfaaW.PrintLast Go.Proofs.YtkpjdkmggbelfaaW.PrintMore Go.Proofs.Ytkpjdkmggbelfaa.Mem Go.Proofs.Ytkpjdkmggbelfaa.PHostPlays
set_option linter.unusedVariables false
set_option linter.unusedSimpArgs false
abbrev kw : Kd Int := Kd.int .u64
theorem info113 : (Try.prog.info? 113).map (fun i => (i.zero, i.size, i.bytes)) = some (some (.int .u64 0), 1, 8) := by kernel_rfl
theorem info4 : (Try.prog.info? 4).map (fun i => (i.zero, i.size, i.bytes)) = some (some (.bool false), 1, 1) := by kernel_rfl
theorem info109 : (Try.prog.info? 109).map (fun i => (i.zero, i.size, i.bytes)) = some (some (.agg #[.bool false, .slice none 0 0]), 2, 32) := by kernel_rfl
theorem info156 : (Try.prog.info? 156).map (fun i => (i.zero, i.size, i.bytes)) = some (some (.agg #[.string ⟨#[]⟩, .slice none 0 0]), 2, 40) := by kernel_rfl
def CopyPost {α : Type} (d : Kd α) (el : Nat) (w : World) (ok : Nat → Prop) (l : List α) (e : Ending) (w' : World) : Prop := ∃ v, e = .returned v ∧ Row d el w' ok v l ∧ (∀ b, v.ownBlock = some b → w.heap.size ≤ b) ∧ Below w.heap.size w w'
set_option maxRecDepth 100000 in
set_option maxHeartbeats 1000000 in
theorem clone_words_raw (A : Option Addr) (c : Nat) (l : List Int) (w : World) (ok : Nat → Prop) (rows : List (List Value)) (hrl : rows.length = l.length) (hraw : RawSrc w 1 A l.length rows.flatten) (hf : ∀ (j : Nat) (x : Int) (c : List Value), l[j]? = some x → rows[j]? = some c → Kd.FK kw w ok x c) (hl : l.length ≤ 17592186043904) : Calls Try.prog 82 #[.slice A l.length c] w (CopyPost kw 113 w ok l) := by
  have heq : ∀ (W : World) (n m : Nat), (binOp .eql 78 (.slice A n m) (.slice none 0 0)).run Try.prog W = .ok (.bool A.isNone) W := fun W n m => Lib.run_eql_slice_nil W 78 113 A n m 0 0 Try.underlying78
  have HS := Aside0.mk hraw
  have HF := Aside0.mk hf
  have HRL := Aside0.mk hrl
  have HL := Aside0.mk hl
  cases A with
  | none =>
    have h0 : l = [] := List.eq_nil_of_length_eq_zero (hraw.2.2.1 rfl)
    subst h0
    clear hl hraw hf hrl
    simp only [Option.isNone_none] at heq
    go_enter Try.func82, Try.ntmps82
    go_wp2
    go_ret
    exact ⟨_, rfl, Row.nil _ _ _ _, (fun b hb => by cases hb), Below.refl _ _⟩
  | some ad =>
    clear hl hraw hf hrl
    simp only [Option.isNone_some] at heq
    go_enter Try.func82, Try.ntmps82
    have HE : ∀ W : World, Loose (W.alloc (.cells #[] 113)) 113 1 (.slice (some ⟨W.heap.size, 0, none⟩) 0 0) 0 [] := fun W => ⟨rfl, .inr ⟨W.heap.size, 0, #[], rfl, heap_alloc_new W _, Nat.le_refl _, by decide, Nat.le_refl _, rfl⟩⟩
    have HB := Aside0.mk (below_alloc (Below.refl w.heap.size w) (.cells #[] 113))
    have HE' := Aside0.mk HE
    clear HE
    go_wp2_with (first | (at_builtin; refine loose_append rfl (.tmp 5) (.tmp 6) 78 113 (.int .u64 0) 1 8 rfl Try.underlying78 info113 rfl (by decide) (by decide) (.slice (some ⟨w.heap.size, 0, none⟩) 0 0) 0 [] (some ad) l.length c rows.flatten rfl rfl (HE'.out w) (HS.out.below HB.out) (by have := HL.out; omega) ?_; intro v1 w1 h1 h2 h3; have H1 := Aside0.mk h1; have H2 := Aside0.mk h2; have H3 := Aside0.mk h3; clear h1 h2 h3) | fail)
    go_ret
    have hb : Below w.heap.size w w1 := pw_below_grown HB.out _ HB.out.size H2.out (fun k hk => by have : w.heap.size = k := Option.some.inj hk; omega)
    refine ⟨v1, rfl, ⟨rows, HRL.out, ?_, fun j x c hx hc => Kd.FK_step (HF.out j x c hx hc) fun k _ hlt => hb.block k hlt⟩, ?_, hb⟩
    · have := H1.out
      rw [Nat.zero_add, List.nil_append] at this
      exact this
    · intro b hb
      rcases H3.out with h | ⟨b', h, h'⟩
      · rw [h] at hb
        have : w.heap.size = b := Option.some.inj hb
        omega
      · rw [h] at hb
        injection hb with hb
        rw [World.size_alloc] at h'
        omega
theorem clone_words (A : Option Addr) (c : Nat) (l : List Int) (w : World) (ok : Nat → Prop) (h : Kd.F kw w ok A l.length l) (hl : l.length ≤ 17592186043904) : Calls Try.prog 82 #[.slice A l.length c] w (CopyPost kw 113 w ok l) := by
  obtain ⟨rows, hrl, hraw, hf⟩ := row_raw h
  exact clone_words_raw A c l w ok rows hrl hraw hf hl
set_option maxRecDepth 100000 in
set_option maxHeartbeats 1000000 in
theorem clone_truths_raw (A : Option Addr) (c : Nat) (l : List Bool) (w : World) (ok : Nat → Prop) (rows : List (List Value)) (hrl : rows.length = l.length) (hraw : RawSrc w 1 A l.length rows.flatten) (hf : ∀ (j : Nat) (x : Bool) (c : List Value), l[j]? = some x → rows[j]? = some c → Kd.FK Kd.bool w ok x c) (hl : l.length ≤ 140737488351232) : Calls Try.prog 69 #[.slice A l.length c] w (CopyPost Kd.bool 4 w ok l) := by
  have heq : ∀ (W : World) (n m : Nat), (binOp .eql 71 (.slice A n m) (.slice none 0 0)).run Try.prog W = .ok (.bool A.isNone) W := fun W n m => Lib.run_eql_slice_nil W 71 4 A n m 0 0 Try.underlying71
  have HS := Aside0.mk hraw
  have HF := Aside0.mk hf
  have HRL := Aside0.mk hrl
  have HL := Aside0.mk hl
  cases A with
  | none =>
    have h0 : l = [] := List.eq_nil_of_length_eq_zero (hraw.2.2.1 rfl)
    subst h0
    clear hl hraw hf hrl
    simp only [Option.isNone_none] at heq
    go_enter Try.func69, Try.ntmps69
    go_wp2
    go_ret
    exact ⟨_, rfl, Row.nil _ _ _ _, (fun b hb => by cases hb), Below.refl _ _⟩
  | some ad =>
    clear hl hraw hf hrl
    simp only [Option.isNone_some] at heq
    go_enter Try.func69, Try.ntmps69
    have HE : ∀ W : World, Loose (W.alloc (.cells #[] 4)) 4 1 (.slice (some ⟨W.heap.size, 0, none⟩) 0 0) 0 [] := fun W => ⟨rfl, .inr ⟨W.heap.size, 0, #[], rfl, heap_alloc_new W _, Nat.le_refl _, by decide, Nat.le_refl _, rfl⟩⟩
    have HB := Aside0.mk (below_alloc (Below.refl w.heap.size w) (.cells #[] 4))
    have HE' := Aside0.mk HE
    clear HE
    go_wp2_with (first | (at_builtin; refine loose_append rfl (.tmp 5) (.tmp 6) 71 4 (.bool false) 1 1 rfl Try.underlying71 info4 rfl (by decide) (by decide) (.slice (some ⟨w.heap.size, 0, none⟩) 0 0) 0 [] (some ad) l.length c rows.flatten rfl rfl (HE'.out w) (HS.out.below HB.out) (by have := HL.out; omega) ?_; intro v1 w1 h1 h2 h3; have H1 := Aside0.mk h1; have H2 := Aside0.mk h2; have H3 := Aside0.mk h3; clear h1 h2 h3) | fail)
    go_ret
    have hb : Below w.heap.size w w1 := pw_below_grown HB.out _ HB.out.size H2.out (fun k hk => by have : w.heap.size = k := Option.some.inj hk; omega)
    refine ⟨v1, rfl, ⟨rows, HRL.out, ?_, fun j x c hx hc => Kd.FK_step (HF.out j x c hx hc) fun k _ hlt => hb.block k hlt⟩, ?_, hb⟩
    · have := H1.out
      rw [Nat.zero_add, List.nil_append] at this
      exact this
    · intro b hb
      rcases H3.out with h | ⟨b', h, h'⟩
      · rw [h] at hb
        have : w.heap.size = b := Option.some.inj hb
        omega
      · rw [h] at hb
        injection hb with hb
        rw [World.size_alloc] at h'
        omega
theorem clone_truths (A : Option Addr) (c : Nat) (l : List Bool) (w : World) (ok : Nat → Prop) (h : Kd.F Kd.bool w ok A l.length l) (hl : l.length ≤ 140737488351232) : Calls Try.prog 69 #[.slice A l.length c] w (CopyPost Kd.bool 4 w ok l) := by
  obtain ⟨rows, hrl, hraw, hf⟩ := row_raw h
  exact clone_truths_raw A c l w ok rows hrl hraw hf hl
set_option maxRecDepth 100000 in
set_option maxHeartbeats 1000000 in
theorem clone_answers_raw (A : Option Addr) (c : Nat) (l : List S109) (w : World) (ok : Nat → Prop) (rows : List (List Value)) (hrl : rows.length = l.length) (hraw : RawSrc w 2 A l.length rows.flatten) (hf : ∀ (j : Nat) (x : S109) (c : List Value), l[j]? = some x → rows[j]? = some c → Kd.FK k109 w ok x c) (hl : l.length ≤ 4398046510976) : Calls Try.prog 83 #[.slice A l.length c] w (CopyPost k109 109 w ok l) := by
  have heq : ∀ (W : World) (n m : Nat), (binOp .eql 75 (.slice A n m) (.slice none 0 0)).run Try.prog W = .ok (.bool A.isNone) W := fun W n m => Lib.run_eql_slice_nil W 75 109 A n m 0 0 Try.underlying75
  have HS := Aside0.mk hraw
  have HF := Aside0.mk hf
  have HRL := Aside0.mk hrl
  have HL := Aside0.mk hl
  cases A with
  | none =>
    have h0 : l = [] := List.eq_nil_of_length_eq_zero (hraw.2.2.1 rfl)
    subst h0
    clear hl hraw hf hrl
    simp only [Option.isNone_none] at heq
    go_enter Try.func83, Try.ntmps83
    go_wp2
    go_ret
    exact ⟨_, rfl, Row.nil _ _ _ _, (fun b hb => by cases hb), Below.refl _ _⟩
  | some ad =>
    clear hl hraw hf hrl
    simp only [Option.isNone_some] at heq
    go_enter Try.func83, Try.ntmps83
    have HE : ∀ W : World, Loose (W.alloc (.cells #[] 109)) 109 2 (.slice (some ⟨W.heap.size, 0, none⟩) 0 0) 0 [] := fun W => ⟨rfl, .inr ⟨W.heap.size, 0, #[], rfl, heap_alloc_new W _, Nat.le_refl _, by decide, Nat.le_refl _, rfl⟩⟩
    have HB := Aside0.mk (below_alloc (Below.refl w.heap.size w) (.cells #[] 109))
    have HE' := Aside0.mk HE
    clear HE
    go_wp2_with (first | (at_builtin; refine loose_append rfl (.tmp 5) (.tmp 6) 75 109 (.agg #[.bool false, .slice none 0 0]) 2 32 rfl Try.underlying75 info109 rfl (by decide) (by decide) (.slice (some ⟨w.heap.size, 0, none⟩) 0 0) 0 [] (some ad) l.length c rows.flatten rfl rfl (HE'.out w) (HS.out.below HB.out) (by have := HL.out; omega) ?_; intro v1 w1 h1 h2 h3; have H1 := Aside0.mk h1; have H2 := Aside0.mk h2; have H3 := Aside0.mk h3; clear h1 h2 h3) | fail)
    go_ret
    have hb : Below w.heap.size w w1 := pw_below_grown HB.out _ HB.out.size H2.out (fun k hk => by have : w.heap.size = k := Option.some.inj hk; omega)
    refine ⟨v1, rfl, ⟨rows, HRL.out, ?_, fun j x c hx hc => Kd.FK_step (HF.out j x c hx hc) fun k _ hlt => hb.block k hlt⟩, ?_, hb⟩
    · have := H1.out
      rw [Nat.zero_add, List.nil_append] at this
      exact this
    · intro b hb
      rcases H3.out with h | ⟨b', h, h'⟩
      · rw [h] at hb
        have : w.heap.size = b := Option.some.inj hb
        omega
      · rw [h] at hb
        injection hb with hb
        rw [World.size_alloc] at h'
        omega
theorem clone_answers (A : Option Addr) (c : Nat) (l : List S109) (w : World) (ok : Nat → Prop) (h : Kd.F k109 w ok A l.length l) (hl : l.length ≤ 4398046510976) : Calls Try.prog 83 #[.slice A l.length c] w (CopyPost k109 109 w ok l) := by
  obtain ⟨rows, hrl, hraw, hf⟩ := row_raw h
  exact clone_answers_raw A c l w ok rows hrl hraw hf hl
end Go.Proofs.Ytkpjdkmggbelfaa.Host
