/- The walks of slices.Clone at bytes, of New, is and last of operand's stack. -/
import Derived.Test.YtkpjdkmggbelfaaMem
namespace Go.Proofs.Ytkpjdkmggbelfaa.Operand
open Go.RowKit Go.Proofs.YtkpjdkmggbelfaaW.PrintWords Go.Proofs.YtkpjdkmggbelfaaW.PrintLast Go.Proofs.YtkpjdkmggbelfaaW.PrintMore Go.Proofs.Ytkpjdkmggbelfaa.Mem
set_option linter.unusedVariables false
set_option linter.unusedSimpArgs false
theorem info5 : (Try.prog.info? 5).map (fun i => (i.zero, i.size, i.bytes)) = some (some (.int .u8 0), 1, 1) := by kernel_rfl
abbrev ku : Kd Int := Kd.int .u8
theorem encs_nums (xs : List Int) : encs (Value.int .u8) xs = nums .u8 xs := rfl
/-- A copy of its own. -/
def ClonePost (w : World) (l : List Int) (e : Ending) (w' : World) : Prop := ∃ v, e = .returned v ∧ Loose w' 5 1 v l.length (nums .u8 l) ∧ (∀ b, v.ownBlock = some b → w.heap.size ≤ b) ∧ Below w.heap.size w w'
set_option maxRecDepth 100000 in
set_option maxHeartbeats 1000000 in
theorem clone_calls (A : Option Addr) (c : Nat) (l : List Int) (w : World) (h : ku.C w A l.length l) (hl : l.length ≤ 1000000) : Calls Try.prog 72 #[.slice A l.length c] w (ClonePost w l) := by
  have heq : ∀ (W : World) (n m : Nat), (binOp .eql 32 (.slice A n m) (.slice none 0 0)).run Try.prog W = .ok (.bool A.isNone) W := fun W n m => Lib.run_eql_slice_nil W 32 5 A n m 0 0 Try.underlying32
  have HS := Aside0.mk (raw_scalar h)
  have HL := Aside0.mk hl
  cases A with
  | none =>
    have h0 : l = [] := by
      cases l with
      | nil => rfl
      | cons a r =>
        obtain ⟨_, e, _⟩ := h.2.2 (by simp)
        cases e
    subst h0
    clear h hl
    simp only [Option.isNone_none] at heq
    go_enter Try.func72, Try.ntmps72
    go_wp2
    go_ret
    exact ⟨_, rfl, Loose.nil _ _ _, (fun b hb => by cases hb), Below.refl _ _⟩
  | some ad =>
    clear h hl
    simp only [Option.isNone_some] at heq
    go_enter Try.func72, Try.ntmps72
    have HE : ∀ W : World, Loose (W.alloc (.cells #[] 5)) 5 1 (.slice (some ⟨W.heap.size, 0, none⟩) 0 0) 0 [] := fun W => ⟨rfl, .inr ⟨W.heap.size, 0, #[], rfl, heap_alloc_new W _, Nat.le_refl _, by decide, Nat.le_refl _, rfl⟩⟩
    have HB := Aside0.mk (below_alloc (Below.refl w.heap.size w) (.cells #[] 5))
    have HE' := Aside0.mk HE
    clear HE
    go_wp2_with (first | (at_builtin; refine loose_append rfl (.tmp 5) (.tmp 6) 32 5 (.int .u8 0) 1 1 rfl Try.underlying32 info5 rfl (by decide) (by decide) (.slice (some ⟨w.heap.size, 0, none⟩) 0 0) 0 [] (some ad) l.length c (encs (.int .u8) l) rfl rfl (HE'.out w) (HS.out.below HB.out) (by have := HL.out; omega) ?_; intro v1 w1 h1 h2 h3; have H1 := Aside0.mk h1; have H2 := Aside0.mk h2; have H3 := Aside0.mk h3; clear h1 h2 h3) | fail)
    go_ret
    refine ⟨v1, rfl, ?_, ?_, ?_⟩
    · have := H1.out
      rw [Nat.zero_add, List.nil_append] at this
      exact this
    · intro b hb
      rcases H3.out with h | ⟨b', h, h'⟩
      · rw [h] at hb
        have : w.heap.size = b := Option.some.inj hb
        omega
      · rw [h] at hb
        injection hb with hb
        rw [World.size_alloc] at h'
        omega
    · exact pw_below_grown HB.out _ HB.out.size H2.out (fun k hk => by have : w.heap.size = k := Option.some.inj hk; omega)
end Go.Proofs.Ytkpjdkmggbelfaa.Operand
