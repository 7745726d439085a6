/- A stack's methods, for one stack beside what came in; the walk of the law's example. -/
import Derived.Test.YtkpjdkmggbelfaaOpClos2
namespace Go.Proofs.Ytkpjdkmggbelfaa.Operand
open Go.RowKit Go.Proofs.YtkpjdkmggbelfaaW.PrintWords Go.Proofs.YtkpjdkmggbelfaaW.PrintLast Go.Proofs.YtkpjdkmggbelfaaW.PrintMore Go.Proofs.Ytkpjdkmggbelfaa.Mem
set_option linter.unusedVariables false
set_option linter.unusedSimpArgs false
/-- There is a stack at g, of these frames. -/
def Has (base : Nat) (w : World) (g : Nat) (fs : List Fr) : Prop := ∃ tag v cells, Stk base w g tag fs v cells
theorem Has.base {base : Nat} {w : World} {g : Nat} {fs : List Fr} (h : Has base w g fs) : base ≤ w.heap.size := by
  obtain ⟨tag, v, cells, h⟩ := h
  exact h.base
theorem Has.below {base : Nat} {w w1 : World} {g : Nat} {fs : List Fr} (h : Has base w g fs) (hb : Below w.heap.size w w1) : Has base w1 g fs := by
  obtain ⟨tag, v, cells, h⟩ := h
  exact ⟨tag, v, cells, h.below hb⟩
/-- What came in is read. -/
def Came (base : Nat) (w : World) (A : Option Addr) (l : List Int) : Prop := Kd.F ku w (fun k => k < base) A l.length l
theorem Came.below {base : Nat} {w w1 : World} {A : Option Addr} {l : List Int} (h : Came base w A l) (hb : Below base w w1) : Came base w1 A l := Kd.F_step h fun k hk _ => hb.block k hk
theorem Came.of {w : World} {A : Option Addr} {l : List Int} (h : ku.C w A l.length l) : Came w.heap.size w A l := Kd.C_F (Kd.heap_int _) h
theorem Came.c {base : Nat} {w : World} {A : Option Addr} {l : List Int} (h : Came base w A l) : ku.C w A l.length l := Kd.F_now h
theorem Came.nil (base : Nat) (w : World) : Came base w none [] := Kd.F_nil _ _ _
def Did (base : Nat) (w : World) (g : Nat) (r : Value) (fs : List Fr) (e : Ending) (w' : World) : Prop := e = .returned r ∧ Has base w' g fs ∧ Below base w w'
def DidEnd (base : Nat) (w : World) (g : Nat) (r : List Int × Int × List Fr) (e : Ending) (w' : World) : Prop := ∃ A c, e = .returned (.tuple #[.slice A r.1.length c, .int .i64 r.2.1]) ∧ ku.C w' A r.1.length r.1 ∧ Has base w' g r.2.2 ∧ Below base w w'
theorem After.has {base : Nat} {w w1 : World} {g : Nat} {tag : Nat → Nat} {fs : List Fr} (h : After base w g tag fs w1) : Has base w1 g fs ∧ Below base w w1 := by
  obtain ⟨v, tag1, cells, h1, _, hb, _⟩ := h
  exact ⟨⟨tag1, v, cells, h1⟩, hb⟩
section
variable {base : Nat} {w : World} {g : Nat} {fs : List Fr}
theorem Open_has (h : Has base w g fs) (hs : Small 1000000 fs) (A0 : Option Addr) (c0 : Nat) (l : List Int) (h0 : Came base w A0 l) (hl0 : l.length ≤ 1000000) (A1 : Option Addr) (c1 : Nat) (e : List Int) (h1 : Came base w A1 e) (hl1 : e.length ≤ 1000000) :
    Calls Try.prog 37 #[.pointer (some ⟨g, 0, none⟩), .slice A0 l.length c0, .slice A1 e.length c1] w (Did base w g (.tuple #[]) (openM fs l e)) := by
  obtain ⟨tag, v, cells, h⟩ := h
  exact (Open_calls base w g tag fs v cells h hs.1 A0 c0 l h0.c hl0 A1 c1 e h1.c hl1).mono fun e w' ⟨he, ha⟩ => ⟨he, ha.has⟩
theorem Push_has (h : Has base w g fs) (hs : Small 1000000 fs) (A0 : Option Addr) (c0 : Nat) (l : List Int) (h0 : ku.C w A0 l.length l) (hl0 : l.length ≤ 1000000) :
    Calls Try.prog 38 #[.pointer (some ⟨g, 0, none⟩), .slice A0 l.length c0] w (Did base w g (.tuple #[]) (pushM fs l)) := by
  obtain ⟨tag, v, cells, h⟩ := h
  rcases parted fs with rfl | ⟨gs, f, rfl⟩
  · rw [pushM_nil]
    exact (Push_none base w g tag v cells h h.base A0 c0 l).mono fun e w' ⟨he, ha⟩ => ⟨he, ha.has⟩
  · rw [pushM_last]
    exact (Push_some base w g tag gs f v cells h (by have := hs.1; simp at this; omega) (small_of_last hs).1 A0 c0 l h0 hl0).mono fun e w' ⟨he, ha⟩ => ⟨he, ha.has⟩
theorem Kill_has (h : Has base w g fs) (hs : Small 1000000 fs) : Calls Try.prog 42 #[.pointer (some ⟨g, 0, none⟩)] w (Did base w g (.tuple #[]) (killM fs)) := by
  obtain ⟨tag, v, cells, h⟩ := h
  rcases parted fs with rfl | ⟨gs, f, rfl⟩
  · exact (Kill_none base w g tag v cells h h.base).mono fun e w' ⟨he, ha⟩ => ⟨he, ha.has⟩
  · rw [killM_last]
    exact (Kill_some base w g tag gs f v cells h (by have := hs.1; simp at this; omega)).mono fun e w' ⟨he, ha⟩ => ⟨he, ha.has⟩
theorem Pop_has (h : Has base w g fs) (hs : Small 1000000 fs) (want : Int) : Calls Try.prog 41 #[.pointer (some ⟨g, 0, none⟩), .int .u8 want] w (Did base w g (.tuple #[.int .u8 (popM fs want).1, .int .i64 (popM fs want).2.1]) (popM fs want).2.2) := by
  obtain ⟨tag, v, cells, h⟩ := h
  exact (Pop_calls base w g tag fs v cells h hs want).mono fun e w' ⟨he, ha⟩ => ⟨he, ha.any.has⟩
theorem Take_has (h : Has base w g fs) (hs : Small 1000000 fs) (A : Option Addr) (c : Nat) (l : List Int) (h0 : Came base w A l) (hl : l.length ≤ 1000000) : Calls Try.prog 43 #[.pointer (some ⟨g, 0, none⟩), .slice A l.length c] w (Did base w g (.int .i64 (takeM fs l.reverse).1) (takeM fs l.reverse).2) := by
  obtain ⟨tag, v, cells, h⟩ := h
  exact (Take_calls base w g tag fs v cells h hs A c l (Kd.F_mono h0 fun k hk => .inl hk) hl).mono fun e w' ⟨he, ha⟩ => ⟨he, ha.any.has⟩
theorem Close_has (h : Has base w g fs) (hs : Small 1000000 fs) : Calls Try.prog 39 #[.pointer (some ⟨g, 0, none⟩)] w (DidEnd base w g (closeM fs)) := by
  obtain ⟨tag, v, cells, h⟩ := h
  refine (Close_calls base w g tag fs v cells h hs).mono fun e w' ⟨v1, he, hl, _, ha⟩ => ?_
  obtain ⟨A, c, rfl, _, hC⟩ := loose_cu hl
  exact ⟨A, c, he, hC, ha.has⟩
theorem Frames_has (h : Has base w g fs) : Calls Try.prog 46 #[.pointer (some ⟨g, 0, none⟩)] w fun e w' => e = .returned (.int .i64 (fs.length : Int)) ∧ w = w' := by
  obtain ⟨tag, v, cells, h⟩ := h
  exact Frames_calls base w g tag fs v cells h
def LyingPost (w : World) (l : List Int) (e : Ending) (w' : World) : Prop := ∃ A c, e = .returned (.slice A l.length c) ∧ ku.C w' A l.length l ∧ Below w.heap.size w w'
theorem Lying_has (h : Has base w g fs) (hs : Small 1000000 fs) : Calls Try.prog 40 #[.pointer (some ⟨g, 0, none⟩)] w (LyingPost w (lyingM fs)) := by
  obtain ⟨tag, v, cells, h⟩ := h
  rcases parted fs with rfl | ⟨gs, f, rfl⟩
  · refine (Lying_none base w g tag v cells h).mono fun e w' ⟨v1, he, hl, _, hb⟩ => ?_
    obtain ⟨A, c, rfl, _, hC⟩ := loose_cu hl
    exact ⟨A, c, he, hC, hb⟩
  · rw [lyingM_last]
    refine (Lying_some base w g tag gs f v cells h (by have := hs.1; simp at this; omega) (small_of_last hs).1).mono fun e w' ⟨v1, he, hl, _, hb⟩ => ?_
    obtain ⟨A, c, rfl, _, hC⟩ := loose_cu hl
    exact ⟨A, c, he, hC, hb⟩
theorem New_has (w : World) : Calls Try.prog 36 #[] w fun e w' => ∃ g, e = .returned (.pointer (some ⟨g, 0, none⟩)) ∧ Has w.heap.size w' g [] ∧ Below w.heap.size w w' := by
  refine (New_calls w).mono fun e w' ⟨g, he, hg, hbox, hb⟩ => ⟨g, he, ⟨fun k => if k = g then 1 else 0, .slice none 0 0, [], ⟨fun k hk => ?_, hbox, by simp, (fun b hb => by cases hb), Loose.nil _ _ _, fun j f hj => by simp at hj⟩⟩, hb⟩
  by_cases e2 : k = g
  · subst e2
    exact ⟨hg, blk_lt hbox⟩
  · simp [e2] at hk
end
theorem small_nil (K : Nat) : Small K [] := ⟨Nat.zero_le _, fun f hf => by cases hf⟩
theorem Has.lower {base base' : Nat} {w : World} {g : Nat} {fs : List Fr} (h : Has base w g fs) (hb : base' ≤ base) : Has base' w g fs := by
  obtain ⟨tag, v, cells, h1, h2, h3, h4, h5, h6⟩ := h
  exact ⟨tag, v, cells, fun k hk => ⟨Nat.le_trans hb (h1 k hk).1, (h1 k hk).2⟩, h2, h3, h4, h5, h6⟩
/-! ### the chapter's examples -/
theorem lit1 (W : World) (x : Int) : ku.C (W.alloc (.cells #[.int .u8 x] 5)) (some ⟨W.heap.size, 0, none⟩) [x].length [x] := by
  have h : Loose (W.alloc (.cells #[.int .u8 x] 5)) 5 1 (.slice (some ⟨W.heap.size, 0, none⟩) 1 1) [x].length (nums .u8 [x]) := ⟨rfl, .inr ⟨W.heap.size, 1, _, rfl, heap_alloc_new W _, Nat.le_refl _, by decide, Nat.le_refl _, rfl⟩⟩
  obtain ⟨A, c, e, _, hC⟩ := loose_cu h
  injection e with e
  rw [e]
  exact hC
set_option maxRecDepth 100000 in
set_option maxHeartbeats 4000000 in
theorem awake_calls (w : World) : Calls Try.prog 35 #[] w fun e w' => e = .returned (.bool true) ∧ Below w.heap.size w w' := by
  go_enter Try.func35, Try.ntmps35
  go_wp2_with fail
  refine (New_has w).mono ?_
  rintro e w1 ⟨g, rfl, hh, hb⟩
  have H := Aside0.mk hh
  have HB := Aside0.mk hb
  clear hh hb
  go_wp2_with fail
  refine (Open_has H.out (small_nil _) none 0 [] (Came.nil _ _) (Nat.zero_le _) none 0 [] (Came.nil _ _) (Nat.zero_le _)).mono ?_
  rintro e w2 ⟨rfl, hh, hb⟩
  have H1 := Aside0.mk hh
  have HB1 := Aside0.mk (HB.out.trans hb)
  clear hh hb HB H
  have P1 : popM (openM [] [] []) 0 = (0, 200, openM [] [] []) := rfl
  have P2 : pushM (openM [] [] []) [127] = [⟨[], [], [127], false⟩] := rfl
  have P3 : lyingM [⟨[], [], [127], false⟩] = [127] := rfl
  have P4 : killM [⟨[], [], [127], false⟩] = [⟨[], [], [], true⟩] := rfl
  have P5 : popM [⟨[], [], [], true⟩] 124 = (0, 0, [⟨[], [], [], true⟩]) := rfl
  have Q1 : Small 1000000 (openM [] [] []) := by simp [Small, openM]
  have Q2 : Small 1000000 [⟨[], [], [127], false⟩] := by simp [Small]
  have Q3 : Small 1000000 [⟨[], [], [], true⟩] := by simp [Small]
  have pp := fun (W : World) (h : Has w.heap.size W g (openM [] [] [])) => Pop_has h Q1 0
  rw [P1] at pp
  have A1 := Aside0.mk pp
  have pu := fun (W W2 : World) (h : Has w.heap.size W2 g (openM [] [] [])) (h1 : ku.C W2 (some ⟨W.heap.size, 0, none⟩) [127].length [127]) => Push_has h Q1 (some ⟨W.heap.size, 0, none⟩) 1 [127] h1 (by decide)
  rw [P2] at pu
  have A2 := Aside0.mk pu
  have ly := fun (W : World) (h : Has w.heap.size W g [⟨[], [], [127], false⟩]) => Lying_has h Q2
  rw [P3] at ly
  have A3 := Aside0.mk ly
  have ki := fun (W : World) (h : Has w.heap.size W g [⟨[], [], [127], false⟩]) => Kill_has h Q2
  rw [P4] at ki
  have A4 := Aside0.mk ki
  have po := fun (W : World) (h : Has w.heap.size W g [⟨[], [], [], true⟩]) => Pop_has h Q3 124
  rw [P5] at po
  have A5 := Aside0.mk po
  have A6 := Aside0.mk (fun (W : World) (h : Has w.heap.size W g [⟨[], [], [], true⟩]) => Frames_has h)
  clear P1 P2 P3 P4 P5 Q1 Q2 Q3 pp pu ly ki po
  go_wp2_with fail
  refine (A1.out _ H1.out).mono ?_
  rintro e w3 ⟨rfl, hh, hb⟩
  have H2 := Aside0.mk hh
  have HB2 := Aside0.mk (HB1.out.trans hb)
  clear hh hb HB1 H1
  have L := Aside0.mk (lit1 w3 127)
  have H3 := Aside0.mk (H2.out.below (below_alloc (Below.refl _ _) (.cells #[.int .u8 127] 5)))
  have HB3 := Aside0.mk (HB2.out.alloc HB2.out.size (.cells #[.int .u8 127] 5))
  go_wp2_with fail
  refine (A2.out _ _ H3.out L.out).mono ?_
  rintro e w4 ⟨rfl, hh, hb⟩
  have H4 := Aside0.mk hh
  have HB4 := Aside0.mk (HB3.out.trans hb)
  clear hh hb HB2 H2 HB3 H3 L
  go_wp2_with fail
  refine (A3.out _ H4.out).mono ?_
  rintro e w5 ⟨A, c, rfl, _, hb⟩
  have H5 := Aside0.mk (H4.out.below hb)
  have HB5 := Aside0.mk (below_then HB4.out HB4.out.size hb)
  clear hb H4 HB4
  go_wp2_with fail
  refine (A4.out _ H5.out).mono ?_
  rintro e w6 ⟨rfl, hh, hb⟩
  have H6 := Aside0.mk hh
  have HB6 := Aside0.mk (HB5.out.trans hb)
  clear hh hb HB5 H5
  go_wp2_with fail
  refine (A5.out _ H6.out).mono ?_
  rintro e w7 ⟨rfl, hh, hb⟩
  have H7 := Aside0.mk hh
  have HB7 := Aside0.mk (HB6.out.trans hb)
  clear hh hb HB6 H6
  go_wp2_with (go_at_call 46; (with_reducible refine (A6.out _ H7.out).mono ?_); rintro e w8 ⟨rfl, rfl⟩)
  go_ret
  exact ⟨rfl, HB7.out⟩
end Go.Proofs.Ytkpjdkmggbelfaa.Operand
