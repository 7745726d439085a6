/- The walk of trunnionlaw16.awake: it returns true; and utf's functions as the printer's callers want them. -/
import Derived.Test.YtjhdnlgbboboiaaUtfNext
namespace Go.Proofs.Ytjhdnlgbboboiaa.Utf
open Go.RowKit Go.Proofs.YtjhdnlgbboboiaaW.PrintWords Go.Proofs.YtjhdnlgbboboiaaW.PrintLast Go.Proofs.YtjhdnlgbboboiaaW.PrintMore Go.Proofs.Ytjhdnlgbboboiaa.Base
set_option linter.unusedVariables false
set_option linter.unusedSimpArgs false

set_option maxRecDepth 100000 in
theorem Valid_calls (A : Option Addr) (c : Nat) (l : List Int) (w : World) (hl : l.length ≤ 1000000) (hr0 : Kd.C (Kd.int .u8) w A l.length l) :
    Calls Try.prog 20 #[.slice A l.length c] w fun e w' => e = .returned (.bool (countT (strOfNums l)).1) ∧ Below w.heap.size w w' := by
  have H := Aside0.mk (Count_calls A c l w hl hr0)
  obtain ⟨R, hR⟩ : ∃ R, R = countT (strOfNums l) := ⟨_, rfl⟩
  rw [← hR] at H ⊢
  clear hR hr0 hl
  obtain ⟨ok, n⟩ := R
  cases ok
  all_goals
    go_enter Try.func20, Try.ntmps20
    go_wp2_with fail
    refine H.out.mono ?_
    rintro e w1 ⟨rfl, hb⟩
    have HB := Aside0.mk hb
    clear hb
    simp only [countV]
    go_wp2
    go_ret
    exact ⟨rfl, HB.out⟩
theorem Next_calls (A : Option Addr) (c : Nat) (l : List Int) (a : Int) (w : World) (hl : l.length ≤ 1000000) (hc0 : l.length ≤ c) (hr0 : Kd.C (Kd.int .u8) w A l.length l) :
    Calls Try.prog 16 #[.slice A l.length c, .int .i64 a] w (NextEnd w (nextF l a)) := by
  by_cases h : a < 0 ∨ a ≥ l.length
  · exact Next_none A c l a w h
  · by_cases h5 : a + 5 ≤ l.length
    · exact Next_five A c l a w (by omega) (by omega) hl hc0 hr0 h5
    · exact Next_end A c l a w (by omega) (by omega) hl hc0 hr0 (by omega)
theorem aw1 : nextF [226, 130, 172] 0 = (8364, 3, true) := by decide +kernel
theorem aw2 : (countT (strOfNums [192, 128])).1 = false := by decide +kernel
theorem aw3 : (countT (strOfNums [])).1 = true := by decide +kernel
theorem C_nil (w : World) (A : Option Addr) : Kd.C (Kd.int .u8) w A 0 [] := ⟨rfl, by omega, fun h => absurd h (by omega)⟩
set_option maxRecDepth 100000 in
set_option maxHeartbeats 1000000 in
theorem awake_calls (w : World) : Calls Try.prog 15 #[] w fun e w' => e = .returned (.bool true) ∧ Below w.heap.size w w' := by
  have h1 : ∀ W : World, Calls Try.prog 16 #[.slice (some ⟨W.heap.size, 0, none⟩) 3 3, .int .i64 0] (W.alloc (.cells #[.int .u8 226, .int .u8 130, .int .u8 172] 5)) fun e w' => e = .returned (.tuple #[.int .i32 8364, .int .i64 3, .bool true]) ∧ Below W.heap.size W w' := by
    intro W
    refine (Next_calls (some ⟨W.heap.size, 0, none⟩) 3 [226, 130, 172] 0 _ (by decide) (by decide) (C_lit W [226, 130, 172] (by decide))).mono ?_
    rintro e w' ⟨rfl, hb⟩
    rw [aw1]
    exact ⟨rfl, below_then ((Below.refl W.heap.size W).alloc (Nat.le_refl _) _) (by simp) hb⟩
  have h2 : ∀ W : World, Calls Try.prog 20 #[.slice (some ⟨W.heap.size, 0, none⟩) 2 2] (W.alloc (.cells #[.int .u8 192, .int .u8 128] 5)) fun e w' => e = .returned (.bool false) ∧ Below W.heap.size W w' := by
    intro W
    refine (Valid_calls (some ⟨W.heap.size, 0, none⟩) 2 [192, 128] _ (by decide) (C_lit W [192, 128] (by decide))).mono ?_
    rintro e w' ⟨rfl, hb⟩
    rw [aw2]
    exact ⟨rfl, below_then ((Below.refl W.heap.size W).alloc (Nat.le_refl _) _) (by simp) hb⟩
  have h3 : ∀ W : World, Calls Try.prog 20 #[.slice none 0 0] W fun e w' => e = .returned (.bool true) ∧ Below W.heap.size W w' := by
    intro W
    refine (Valid_calls none 0 [] W (by decide) (C_nil W none)).mono ?_
    rintro e w' ⟨rfl, hb⟩
    rw [aw3]
    exact ⟨rfl, hb⟩
  have H1 := Aside0.mk h1
  have H2 := Aside0.mk h2
  have H3 := Aside0.mk h3
  clear h1 h2 h3
  go_enter Try.func15, Try.ntmps15
  go_wp2_with fail
  refine (H1.out w).mono ?_
  rintro e w1 ⟨rfl, hb⟩
  have HB1 := Aside0.mk hb
  clear hb
  go_wp2_with fail
  refine (H2.out _).mono ?_
  rintro e w2 ⟨rfl, hb⟩
  have HB2 := Aside0.mk (below_then HB1.out HB1.out.size hb)
  clear hb
  go_wp2_with fail
  refine (H3.out w2).mono ?_
  rintro e w3 ⟨rfl, hb⟩
  have HB3 := Aside0.mk (below_then HB2.out HB2.out.size hb)
  clear hb
  go_wp2
  go_ret
  exact ⟨rfl, HB3.out⟩
def nextSF (l : List Int) (a : Int) : Option (Int × Int × Bool) := if l.length ≤ 1000000 then some (nextF l a) else none
def countSF (l : List Int) : Option (Int × Bool) := if l.length ≤ 1000000 then some ((if (countT (strOfNums l)).1 = true then (countT (strOfNums l)).2 else 0), (countT (strOfNums l)).1) else none
theorem nextSF_calls (A0 : Option Addr) (c0 : Nat) (l0 : List Int) (a1 : Int) (r1 : Int) (r2 : Int) (r3 : Bool) (w : World) (hr0 : Kd.C (Kd.int .u8) w A0 l0.length l0) (hc0 : l0.length ≤ c0) (h : nextSF l0 a1 = some (r1, r2, r3)) :
    Calls Try.prog 16 #[.slice A0 l0.length c0, .int .i64 a1] w fun e w' => e = .returned (.tuple #[.int .i32 r1, .int .i64 r2, .bool r3]) ∧ Below w.heap.size w w' := by
  unfold nextSF at h
  split at h
  · rename_i hl
    refine (Next_calls A0 c0 l0 a1 w hl hc0 hr0).mono ?_
    rintro e w' ⟨rfl, hb⟩
    rw [Option.some.inj h]
    exact ⟨rfl, hb⟩
  · cases h
theorem countSF_calls (A0 : Option Addr) (c0 : Nat) (l0 : List Int) (r1 : Int) (r2 : Bool) (w : World) (hr0 : Kd.C (Kd.int .u8) w A0 l0.length l0) (hc0 : l0.length ≤ c0) (h : countSF l0 = some (r1, r2)) :
    Calls Try.prog 18 #[.slice A0 l0.length c0] w fun e w' => e = .returned (.tuple #[.int .i64 r1, .bool r2]) ∧ Below w.heap.size w w' := by
  unfold countSF at h
  split at h
  · rename_i hl
    refine (Count_calls A0 c0 l0 w hl hr0).mono ?_
    rintro e w' ⟨rfl, hb⟩
    obtain ⟨rfl, rfl⟩ := Prod.mk.inj (Option.some.inj h)
    exact ⟨rfl, hb⟩
  · cases h
end Go.Proofs.Ytjhdnlgbboboiaa.Utf
