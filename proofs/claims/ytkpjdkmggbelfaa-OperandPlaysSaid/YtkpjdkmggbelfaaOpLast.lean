/- The walks of New, is and last of operand's stack. -/
import Derived.Test.YtkpjdkmggbelfaaOpClone
namespace Go.Proofs.Ytkpjdkmggbelfaa.Operand
open Go.RowKit Go.Proofs.YtkpjdkmggbelfaaW.PrintWords Go.Proofs.YtkpjdkmggbelfaaW.PrintLast Go.Proofs.YtkpjdkmggbelfaaW.PrintMore Go.Proofs.Ytkpjdkmggbelfaa.Mem
set_option linter.unusedVariables false
set_option linter.unusedSimpArgs false
/-- The stack's own block. -/
def Box (W : World) (g : Nat) (v : Value) (b : Bool) : Prop := W.heap[g]? = some (.cells #[v, .bool b] 139 (0, 0))
theorem Box.c0 {W : World} {g : Nat} {v : Value} {b : Bool} (h : Box W g v b) : W.cell? ⟨g, 0, none⟩ = some v := (blk_cell h 0).trans rfl
theorem Box.c1 {W : World} {g : Nat} {v : Value} {b : Bool} (h : Box W g v b) : W.cell? ⟨g, 1, none⟩ = some (.bool b) := (blk_cell h 1).trans rfl
theorem Box.fz {W : World} {g : Nat} {v : Value} {b : Bool} (h : Box W g v b) (j : Nat) : W.frozen? ⟨g, j, none⟩ = false := blk_frozen h j
theorem Box.drewN {W : World} {g : Nat} {v : Value} {b : Bool} (h : Box W g v b) (n : Nat) : Box (W.drewN n) g v b := h
def NewPost (w : World) (e : Ending) (w' : World) : Prop := ∃ g, e = .returned (.pointer (some ⟨g, 0, none⟩)) ∧ w.heap.size ≤ g ∧ Box w' g (.slice none 0 0) true ∧ Below w.heap.size w w'
set_option maxRecDepth 100000 in
set_option maxHeartbeats 1000000 in
theorem New_calls (w : World) : Calls Try.prog 36 #[] w (NewPost w) := by
  have hu := Try.underlying139
  have HB := Aside0.mk (below_alloc (Below.refl w.heap.size w) (.cells #[.slice none 0 0, .bool true] 139))
  have HX : Aside0 (Box (w.alloc (.cells #[.slice none 0 0, .bool true] 139)) w.heap.size (.slice none 0 0) true) := Aside0.mk (heap_alloc_new w _)
  go_enter Try.func36, Try.ntmps36
  go_wp2
  go_ret
  exact ⟨w.heap.size, rfl, Nat.le_refl _, HX.out, HB.out⟩
set_option maxRecDepth 100000 in
set_option maxHeartbeats 1000000 in
theorem is_calls (w : World) (g : Nat) (v : Value) (b : Bool) (h : Box w g v b) : Calls Try.prog 71 #[.pointer (some ⟨g, 0, none⟩)] w fun e w' => e = .returned (.bool b) ∧ w = w' := by
  have c1 := h.c1
  clear h
  go_enter Try.func71, Try.ntmps71
  go_wp2
  go_ret
  exact ⟨rfl, rfl⟩
set_option maxRecDepth 100000 in
set_option maxHeartbeats 1000000 in
theorem is_nil (w : World) : Calls Try.prog 71 #[.pointer none] w fun e w' => e = .returned (.bool false) ∧ w = w' := by
  go_enter Try.func71, Try.ntmps71
  go_wp2
  go_ret
  exact ⟨rfl, rfl⟩
set_option maxRecDepth 100000 in
set_option maxHeartbeats 1000000 in
theorem last_nil (w : World) : Calls Try.prog 73 #[.pointer none] w fun e w' => e = .returned (.pointer none) ∧ w = w' := by
  go_enter Try.func73, Try.ntmps73
  go_wp2_with ((with_reducible refine (is_nil _).mono ?_); rintro e w' ⟨rfl, rfl⟩)
  go_ret
  exact ⟨rfl, rfl⟩
set_option maxRecDepth 100000 in
set_option maxHeartbeats 1000000 in
theorem last_unmade (w : World) (g : Nat) (v : Value) (h : Box w g v false) : Calls Try.prog 73 #[.pointer (some ⟨g, 0, none⟩)] w fun e w' => e = .returned (.pointer none) ∧ w = w' := by
  have H := Aside0.mk h
  clear h
  go_enter Try.func73, Try.ntmps73
  go_wp2_with ((with_reducible refine (is_calls _ _ _ _ H.out).mono ?_); rintro e w' ⟨rfl, rfl⟩)
  go_ret
  exact ⟨rfl, rfl⟩
set_option maxRecDepth 100000 in
set_option maxHeartbeats 1000000 in
theorem last_empty (w : World) (g : Nat) (A : Option Addr) (c : Nat) (h : Box w g (.slice A 0 c) true) : Calls Try.prog 73 #[.pointer (some ⟨g, 0, none⟩)] w fun e w' => e = .returned (.pointer none) ∧ w = w' := by
  have c0 := h.c0
  have H := Aside0.mk h
  clear h
  go_enter Try.func73, Try.ntmps73
  go_wp2_with ((with_reducible refine (is_calls _ _ _ _ H.out).mono ?_); rintro e w' ⟨rfl, rfl⟩)
  go_ret
  exact ⟨rfl, rfl⟩
def LastPost (w : World) (b m : Nat) (e : Ending) (w' : World) : Prop := e = .returned (.pointer (some ⟨b, m * 4, none⟩)) ∧ ∃ n, w' = w.drewN n
set_option maxRecDepth 100000 in
set_option maxHeartbeats 1000000 in
theorem last_some (w : World) (g b m c : Nat) (h : Box w g (.slice (some ⟨b, 0, none⟩) (m + 1) c) true) (hm : m ≤ 1000000) : Calls Try.prog 73 #[.pointer (some ⟨g, 0, none⟩)] w (LastPost w b m) := by
  have c0 := h.c0
  have H := Aside0.mk h
  clear h
  go_enter Try.func73, Try.ntmps73
  go_wp2_with ((with_reducible refine (is_calls _ _ _ _ H.out).mono ?_); rintro e w' ⟨rfl, rfl⟩)
  go_quiet (fail)
  go_wp2
  go_ret
  exact ⟨rfl, _, rfl⟩
/-! ### a frame's pop -/
set_option maxRecDepth 100000 in
set_option maxHeartbeats 1000000 in
theorem fpop_empty (w : World) (b o : Nat) (A : Option Addr) (c : Nat) (dead : Bool) (want : Int) (h2 : w.cell? ⟨b, o + 2, none⟩ = some (.slice A 0 c)) (h3 : w.cell? ⟨b, o + 3, none⟩ = some (.bool dead)) :
    Calls Try.prog 74 #[.pointer (some ⟨b, o, none⟩), .int .u8 want] w fun e w' => e = .returned (.tuple #[.int .u8 0, .int .i64 (if dead = true then 0 else 200)]) ∧ w = w' := by
  cases dead with
  | true =>
    go_enter Try.func74, Try.ntmps74
    go_wp2
    go_ret2
    exact ⟨rfl, rfl⟩
  | false =>
    go_enter Try.func74, Try.ntmps74
    go_wp2
    go_ret2
    exact ⟨rfl, rfl⟩
set_option maxRecDepth 100000 in
set_option maxHeartbeats 1000000 in
theorem fpop_miss (w : World) (b o t k c : Nat) (x want : Int) (h2 : w.cell? ⟨b, o + 2, none⟩ = some (.slice (some ⟨t, 0, none⟩) (k + 1) c)) (hx : w.cell? ⟨t, k, none⟩ = some (.int .u8 x)) (hk : k ≤ 1000000)
    (n1 : x ≠ 0) (n2 : want ≠ 0) (n3 : x ≠ want) :
    Calls Try.prog 74 #[.pointer (some ⟨b, o, none⟩), .int .u8 want] w fun e w' => e = .returned (.tuple #[.int .u8 0, .int .i64 201]) ∧ w = w' := by
  have d1 : (x != 0) = true := bne_iff_ne.2 n1
  have d2 : (want != 0) = true := bne_iff_ne.2 n2
  have d3 : (x != want) = true := bne_iff_ne.2 n3
  have d0 : ((k : Int) + 1 == 0) = false := beq_eq_false_iff_ne.2 (by omega)
  clear n1 n2 n3
  go_enter Try.func74, Try.ntmps74
  go_wp2
  go_ret2
  exact ⟨rfl, rfl⟩
def PopPost (w : World) (b o t k : Nat) (x : Int) (e : Ending) (w' : World) : Prop := e = .returned (.tuple #[.int .u8 x, .int .i64 0]) ∧ w' = w.setCell ⟨b, o + 2, none⟩ (.slice (some ⟨t, 0, none⟩) k k)
set_option maxRecDepth 100000 in
set_option maxHeartbeats 1000000 in
theorem fpop_hit (w : World) (b o t k c : Nat) (x want : Int) (h2 : w.cell? ⟨b, o + 2, none⟩ = some (.slice (some ⟨t, 0, none⟩) (k + 1) c)) (hf : w.frozen? ⟨b, o + 2, none⟩ = false) (hx : w.cell? ⟨t, k, none⟩ = some (.int .u8 x)) (hk : k ≤ 1000000) (hc : k + 1 ≤ c) (hcm : c ≤ 9223372036854775807)
    (hn : x = 0 ∨ want = 0 ∨ x = want) :
    Calls Try.prog 74 #[.pointer (some ⟨b, o, none⟩), .int .u8 want] w (PopPost w b o t k x) := by
  have d0 : ((k : Int) + 1 == 0) = false := beq_eq_false_iff_ne.2 (by omega)
  by_cases n1 : x = 0
  · subst n1
    clear hn
    go_enter Try.func74, Try.ntmps74
    go_wp2
    go_ret2
    exact ⟨rfl, rfl⟩
  have d1 : (x != 0) = true := bne_iff_ne.2 n1
  by_cases n2 : want = 0
  · subst n2
    clear hn n1
    go_enter Try.func74, Try.ntmps74
    go_wp2
    go_ret2
    exact ⟨rfl, rfl⟩
  have d2 : (want != 0) = true := bne_iff_ne.2 n2
  obtain rfl : x = want := by rcases hn with h | h | h <;> first | exact h | exact absurd h n1 | exact absurd h n2
  have d3 : (x != x) = false := bne_self_eq_false x
  clear hn n1 n2
  go_enter Try.func74, Try.ntmps74
  go_wp2
  go_ret2
  exact ⟨rfl, rfl⟩
end Go.Proofs.Ytkpjdkmggbelfaa.Operand
