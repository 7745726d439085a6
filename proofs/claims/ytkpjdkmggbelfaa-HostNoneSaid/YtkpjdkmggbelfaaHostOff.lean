/- A queue that is none, or bare: nothing is in it. -/
import Derived.Test.YtkpjdkmggbelfaaHostAwake
import Derived.Test.YtkpjdkmggbelfaaHostFew
namespace Go.Proofs.Ytkpjdkmggbelfaa.Host
open Go.RowKit Go.Proofs.YtkpjdkmggbelfaaW.PrintWords Go.Proofs.YtkpjdkmggbelfaaW.PrintLast Go.Proofs.YtkpjdkmggbelfaaW.PrintMore Go.Proofs.Ytkpjdkmggbelfaa.Mem Go.Proofs.Ytkpjdkmggbelfaa.PHostPlays
set_option linter.unusedVariables false
set_option linter.unusedSimpArgs false
def Off (W : World) (v : Value) : Prop := v = .pointer none ∨ ∃ g, v = .pointer (some ⟨g, 0, none⟩) ∧ W.heap[g]? = some (.cells #[.slice none 0 0, .slice none 0 0, .slice none 0 0, .bool false] 103 (0, 0))
theorem Off.below {W W1 : World} {v : Value} (h : Off W v) (hb : Below W.heap.size W W1) : Off W1 v := by
  rcases h with h | ⟨g, h, hg⟩
  · exact .inl h
  · exact .inr ⟨g, h, (hb.block g (blk_lt hg)).trans hg⟩
theorem is_off (w : World) (v : Value) (h : Off w v) : Calls Try.prog 57 #[v] w fun e w' => e = .returned (.bool false) ∧ w = w' := by
  rcases h with rfl | ⟨g, rfl, hg⟩
  · exact is_none w
  · exact is_box w g _ _ _ false hg
section
variable (w : World) (v : Value) (h : Off w v)
include h
theorem feed_off (A1 A2 : Option Addr) (n1 c1 n2 c2 : Nat) : Calls Try.prog 24 #[v, .agg #[.slice A1 n1 c1, .slice A2 n2 c2]] w fun e w' => e = .returned (.tuple #[]) ∧ Below w.heap.size w w' := by
  have hb0 := below_alloc (Below.refl w.heap.size w) (.cells #[.slice A1 n1 c1, .slice A2 n2 c2] 77)
  have IS := Aside0.mk (is_off _ v (h.below hb0))
  have HB0 := Aside0.mk hb0
  clear h hb0
  go_enter Try.func24, Try.ntmps24
  go_wp2_with (first | (go_at_call 57; (with_reducible refine IS.out.mono ?_); rintro e w1 ⟨rfl, rfl⟩) | fail)
  go_end0
  exact ⟨rfl, HB0.out⟩
theorem clear_off : Calls Try.prog 29 #[v] w fun e w' => e = .returned (.tuple #[]) ∧ w = w' := by
  have IS := Aside0.mk (is_off _ v h)
  clear h
  go_enter Try.func29, Try.ntmps29
  go_wp2_with (first | (go_at_call 57; (with_reducible refine IS.out.mono ?_); rintro e w1 ⟨rfl, rfl⟩) | fail)
  go_end0
  exact ⟨rfl, rfl⟩
theorem calls_off : Calls Try.prog 32 #[v] w fun e w' => e = .returned (.slice none 0 0) ∧ w = w' := by
  have IS := Aside0.mk (is_off _ v h)
  clear h
  go_enter Try.func32, Try.ntmps32
  go_wp2_with (first | (go_at_call 57; (with_reducible refine IS.out.mono ?_); rintro e w1 ⟨rfl, rfl⟩) | fail)
  go_ret
  exact ⟨rfl, rfl⟩
theorem left_off : Calls Try.prog 31 #[v] w fun e w' => e = .returned (.agg #[.slice none 0 0, .slice none 0 0]) ∧ Below w.heap.size w w' := by
  have hu77 := Try.underlying77
  have hb0 := (below_alloc (Below.refl w.heap.size w) (.cells #[.slice none 0 0, .slice none 0 0] 77)).alloc (by rw [World.size_alloc]; omega) (.cells #[.slice none 0 0, .slice none 0 0] 77)
  have IS := Aside0.mk (is_off _ v (h.below hb0))
  have HB0 := Aside0.mk hb0
  clear h hb0
  go_enter Try.func31, Try.ntmps31
  go_wp2_with (first | (go_at_call 57; (with_reducible refine IS.out.mono ?_); rintro e w1 ⟨rfl, rfl⟩) | fail)
  refine bodyPost_ret (v := .agg #[.slice none 0 0, .slice none 0 0]) (by simp [results, Try.results31, go_sem]) rfl ⟨rfl, ?_⟩
  first | exact HB0.out | exact (HB0.out.setCell (Nat.le_refl _) _).setCell (Nat.le_refl _) _
theorem done_off (k0 : Int) (A0 : Option Addr) (n0 c0 : Nat) (tr fu a b : Int) (A : Option Addr) (n c : Nat) :
    Calls Try.prog 26 #[v, .agg #[.int .i64 k0, .slice A0 n0 c0, .int .i64 tr, .int .i64 fu, .int .i64 a, .int .i64 b, .slice A n c]] w fun e w' => e = .returned (.bool false) ∧ Below w.heap.size w w' := by
  have hb0 := below_alloc (Below.refl w.heap.size w) (.cells #[.int .i64 k0, .slice A0 n0 c0, .int .i64 tr, .int .i64 fu, .int .i64 a, .int .i64 b, .slice A n c] 82)
  have IS := Aside0.mk (fun W (hW : Below w.heap.size w W) => is_off W v (h.below hW))
  have HB0 := Aside0.mk hb0
  clear h hb0
  go_enter Try.func26, Try.ntmps26
  go_wp2
  go_quiet ((go_at_call 57; exact Calls.quiet_of_same ((IS.out _ (pw_below_drewN HB0.out _)).mono fun _ _ hh => ⟨hh.1, hh.2.symm⟩)))
  go_wp2
  go_ret
  exact ⟨rfl, pw_below_drewN HB0.out _⟩
end
end Go.Proofs.Ytkpjdkmggbelfaa.Host
