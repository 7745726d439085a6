/- The walk of the law LinkKeeps: it returns true. -/
import Derived.Test.YtkpjdkmggbelfaaLinkKeep
namespace Go.Proofs.Ytkpjdkmggbelfaa.Link
open Go.RowKit Go.Proofs.YtkpjdkmggbelfaaW.PrintWords Go.Proofs.YtkpjdkmggbelfaaW.PrintLast Go.Proofs.YtkpjdkmggbelfaaW.PrintMore Go.Proofs.Ytkpjdkmggbelfaa.Q29 Go.Proofs.Ytkpjdkmggbelfaa.Open
set_option linter.unusedVariables false
set_option linter.unusedSimpArgs false

theorem few3_calls (X Y Z : S41) : ∃ r : Bool, ∀ (A : Option Addr) (c : Nat) (W : World), 3 ≤ c → Kd.C k41 W A [X, Y, Z].length [X, Y, Z] → Calls Try.prog 13 #[.slice A 3 c] W fun e w' => e = .returned (.bool r) ∧ Below W.heap.size W w' := by
  obtain ⟨k, hk⟩ := (Pure.few_ev [X, Y, Z] (by simp)).rounds
  exact ⟨_, fun A c W hc hC => trunnionlaw29_few.calls k A c [X, Y, Z] _ W hC hc hk⟩
theorem box3 (w : World) (X Y Z : S41) (A0 A1 B0 B1 D0 D1 : Option Addr) (c0 c1 b0 b1 d0 d1 : Nat) : Bx (((w.alloc (.cells #[.int .i64 X.f0, .slice A0 X.f1.f0.length c0, .slice A1 X.f1.f1.length c1, .int .u32 X.f2.f0, .int .u32 X.f2.f1, .bool X.f2.f2, .int .u8 X.f3.f0, .bool X.f3.f1] 41)).alloc (.cells #[.int .i64 Y.f0, .slice B0 Y.f1.f0.length b0, .slice B1 Y.f1.f1.length b1, .int .u32 Y.f2.f0, .int .u32 Y.f2.f1, .bool Y.f2.f2, .int .u8 Y.f3.f0, .bool Y.f3.f1] 41)).alloc (.cells #[.int .i64 Z.f0, .slice D0 Z.f1.f0.length d0, .slice D1 Z.f1.f1.length d1, .int .u32 Z.f2.f0, .int .u32 Z.f2.f1, .bool Z.f2.f2, .int .u8 Z.f3.f0, .bool Z.f3.f1] 41)) w.heap.size X A0 c0 A1 c1 ∧ Bx (((w.alloc (.cells #[.int .i64 X.f0, .slice A0 X.f1.f0.length c0, .slice A1 X.f1.f1.length c1, .int .u32 X.f2.f0, .int .u32 X.f2.f1, .bool X.f2.f2, .int .u8 X.f3.f0, .bool X.f3.f1] 41)).alloc (.cells #[.int .i64 Y.f0, .slice B0 Y.f1.f0.length b0, .slice B1 Y.f1.f1.length b1, .int .u32 Y.f2.f0, .int .u32 Y.f2.f1, .bool Y.f2.f2, .int .u8 Y.f3.f0, .bool Y.f3.f1] 41)).alloc (.cells #[.int .i64 Z.f0, .slice D0 Z.f1.f0.length d0, .slice D1 Z.f1.f1.length d1, .int .u32 Z.f2.f0, .int .u32 Z.f2.f1, .bool Z.f2.f2, .int .u8 Z.f3.f0, .bool Z.f3.f1] 41)) (w.heap.size + 1) Y B0 b0 B1 b1 ∧ Bx (((w.alloc (.cells #[.int .i64 X.f0, .slice A0 X.f1.f0.length c0, .slice A1 X.f1.f1.length c1, .int .u32 X.f2.f0, .int .u32 X.f2.f1, .bool X.f2.f2, .int .u8 X.f3.f0, .bool X.f3.f1] 41)).alloc (.cells #[.int .i64 Y.f0, .slice B0 Y.f1.f0.length b0, .slice B1 Y.f1.f1.length b1, .int .u32 Y.f2.f0, .int .u32 Y.f2.f1, .bool Y.f2.f2, .int .u8 Y.f3.f0, .bool Y.f3.f1] 41)).alloc (.cells #[.int .i64 Z.f0, .slice D0 Z.f1.f0.length d0, .slice D1 Z.f1.f1.length d1, .int .u32 Z.f2.f0, .int .u32 Z.f2.f1, .bool Z.f2.f2, .int .u8 Z.f3.f0, .bool Z.f3.f1] 41)) (w.heap.size + 1 + 1) Z D0 d0 D1 d1 ∧ Below w.heap.size w (((w.alloc (.cells #[.int .i64 X.f0, .slice A0 X.f1.f0.length c0, .slice A1 X.f1.f1.length c1, .int .u32 X.f2.f0, .int .u32 X.f2.f1, .bool X.f2.f2, .int .u8 X.f3.f0, .bool X.f3.f1] 41)).alloc (.cells #[.int .i64 Y.f0, .slice B0 Y.f1.f0.length b0, .slice B1 Y.f1.f1.length b1, .int .u32 Y.f2.f0, .int .u32 Y.f2.f1, .bool Y.f2.f2, .int .u8 Y.f3.f0, .bool Y.f3.f1] 41)).alloc (.cells #[.int .i64 Z.f0, .slice D0 Z.f1.f0.length d0, .slice D1 Z.f1.f1.length d1, .int .u32 Z.f2.f0, .int .u32 Z.f2.f1, .bool Z.f2.f2, .int .u8 Z.f3.f0, .bool Z.f3.f1] 41)) := by
  have h1 := Bx.new w X A0 c0 A1 c1
  have h2 := Bx.new (w.alloc (.cells #[.int .i64 X.f0, .slice A0 X.f1.f0.length c0, .slice A1 X.f1.f1.length c1, .int .u32 X.f2.f0, .int .u32 X.f2.f1, .bool X.f2.f2, .int .u8 X.f3.f0, .bool X.f3.f1] 41)) Y B0 b0 B1 b1
  have h3 := Bx.new ((w.alloc (.cells #[.int .i64 X.f0, .slice A0 X.f1.f0.length c0, .slice A1 X.f1.f1.length c1, .int .u32 X.f2.f0, .int .u32 X.f2.f1, .bool X.f2.f2, .int .u8 X.f3.f0, .bool X.f3.f1] 41)).alloc (.cells #[.int .i64 Y.f0, .slice B0 Y.f1.f0.length b0, .slice B1 Y.f1.f1.length b1, .int .u32 Y.f2.f0, .int .u32 Y.f2.f1, .bool Y.f2.f2, .int .u8 Y.f3.f0, .bool Y.f3.f1] 41)) Z D0 d0 D1 d1
  rw [World.size_alloc] at h2
  rw [World.size_alloc, World.size_alloc] at h3
  refine ⟨?_, ?_, h3, below_alloc (below_alloc (below_alloc (Below.refl _ _) _) _) _⟩
  · exact (h1.below (below_alloc (Below.refl _ _) _)).below (below_alloc (Below.refl _ _) _)
  · exact h2.below (below_alloc (Below.refl _ _) _)
theorem grow9 {w W : World} {n0 : Nat} {X Y Z : S41} {A0 A1 B0 B1 D0 D1 : Option Addr} {c0 c1 b0 b1 d0 d1 : Nat} (hn : n0 = w.heap.size) (hw : Below w.heap.size w W) (hx : Bx W n0 X A0 c0 A1 c1) (hy : Bx W (n0 + 1) Y B0 b0 B1 b1) (hz : Bx W (n0 + 1 + 1) Z D0 d0 D1 d1) :
    Bx (W.alloc (.cells #[.int .i64 Y.f0, .slice B0 Y.f1.f0.length b0, .slice B1 Y.f1.f1.length b1, .int .u32 Y.f2.f0, .int .u32 Y.f2.f1, .bool Y.f2.f2, .int .u8 Y.f3.f0, .bool Y.f3.f1] 41)) n0 X A0 c0 A1 c1 ∧ Bx (W.alloc (.cells #[.int .i64 Y.f0, .slice B0 Y.f1.f0.length b0, .slice B1 Y.f1.f1.length b1, .int .u32 Y.f2.f0, .int .u32 Y.f2.f1, .bool Y.f2.f2, .int .u8 Y.f3.f0, .bool Y.f3.f1] 41)) (n0 + 1) Y B0 b0 B1 b1 ∧ Bx (W.alloc (.cells #[.int .i64 Y.f0, .slice B0 Y.f1.f0.length b0, .slice B1 Y.f1.f1.length b1, .int .u32 Y.f2.f0, .int .u32 Y.f2.f1, .bool Y.f2.f2, .int .u8 Y.f3.f0, .bool Y.f3.f1] 41)) (n0 + 1 + 1) Z D0 d0 D1 d1 ∧ Bx (W.alloc (.cells #[.int .i64 Y.f0, .slice B0 Y.f1.f0.length b0, .slice B1 Y.f1.f1.length b1, .int .u32 Y.f2.f0, .int .u32 Y.f2.f1, .bool Y.f2.f2, .int .u8 Y.f3.f0, .bool Y.f3.f1] 41)) W.heap.size Y B0 b0 B1 b1 ∧ Below w.heap.size w (W.alloc (.cells #[.int .i64 Y.f0, .slice B0 Y.f1.f0.length b0, .slice B1 Y.f1.f1.length b1, .int .u32 Y.f2.f0, .int .u32 Y.f2.f1, .bool Y.f2.f2, .int .u8 Y.f3.f0, .bool Y.f3.f1] 41)) ∧ n0 + 1 + 1 < W.heap.size := by
  have hb : Below W.heap.size W (W.alloc (.cells #[.int .i64 Y.f0, .slice B0 Y.f1.f0.length b0, .slice B1 Y.f1.f1.length b1, .int .u32 Y.f2.f0, .int .u32 Y.f2.f1, .bool Y.f2.f2, .int .u8 Y.f3.f0, .bool Y.f3.f1] 41)) := below_alloc (Below.refl _ _) _
  exact ⟨hx.below hb, hy.below hb, hz.below hb, Bx.new W Y B0 b0 B1 b1, below_then hw hw.size hb, hz.lt⟩
theorem grow12 {w W : World} {n0 q : Nat} {X Y Z : S41} {A0 A1 B0 B1 D0 D1 : Option Addr} {c0 c1 b0 b1 d0 d1 : Nat} (hn : n0 = w.heap.size) (hw : Below w.heap.size w W) (hx : Bx W n0 X A0 c0 A1 c1) (hy : Bx W (n0 + 1) Y B0 b0 B1 b1) (hz : Bx W (n0 + 1 + 1) Z D0 d0 D1 d1) (hg : Bx W q Y B0 b0 B1 b1) (hq : n0 + 1 + 1 < q) (v : Int) :
    Bx (W.setCell ⟨q, 3, none⟩ (.int .u32 v)) n0 X A0 c0 A1 c1 ∧ Bx (W.setCell ⟨q, 3, none⟩ (.int .u32 v)) (n0 + 1) Y B0 b0 B1 b1 ∧ Bx (W.setCell ⟨q, 3, none⟩ (.int .u32 v)) (n0 + 1 + 1) Z D0 d0 D1 d1 ∧ Bx (W.setCell ⟨q, 3, none⟩ (.int .u32 v)) q ⟨Y.f0, Y.f1, ⟨v, Y.f2.f1, Y.f2.f2⟩, Y.f3⟩ B0 b0 B1 b1 ∧ Below w.heap.size w (W.setCell ⟨q, 3, none⟩ (.int .u32 v)) :=
  ⟨blk_far hx (show n0 ≠ q by omega) _, blk_far hy (show n0 + 1 ≠ q by omega) _, blk_far hz (show n0 + 1 + 1 ≠ q by omega) _, blk_put hg 3 _ rfl, hw.setCell (show w.heap.size ≤ q by omega) _⟩
set_option maxRecDepth 100000 in
set_option maxHeartbeats 4000000 in
theorem keeps_walk (w : World) (X Y Z : S41) (A0 A1 B0 B1 D0 D1 : Option Addr) (c0 c1 b0 b1 d0 d1 : Nat)
    (hx0 : X.f1.f0.length ≤ c0) (hx1 : Kd.C (Kd.int .u8) w A0 X.f1.f0.length X.f1.f0) (hx2 : X.f1.f1.length ≤ c1) (hx3 : Kd.C (Kd.int .u8) w A1 X.f1.f1.length X.f1.f1)
    (hy0 : Y.f1.f0.length ≤ b0) (hy1 : Kd.C (Kd.int .u8) w B0 Y.f1.f0.length Y.f1.f0) (hy2 : Y.f1.f1.length ≤ b1) (hy3 : Kd.C (Kd.int .u8) w B1 Y.f1.f1.length Y.f1.f1)
    (hz0 : Z.f1.f0.length ≤ d0) (hz1 : Kd.C (Kd.int .u8) w D0 Z.f1.f0.length Z.f1.f0) (hz2 : Z.f1.f1.length ≤ d1) (hz3 : Kd.C (Kd.int .u8) w D1 Z.f1.f1.length Z.f1.f1)
    (ny : 0 ≤ Y.f2.f0 ∧ Y.f2.f0 < 4294967296) (nz : 0 ≤ Z.f2.f0 ∧ Z.f2.f0 < 4294967296) :
    Calls Try.prog 4 #[.agg #[.int .i64 X.f0, .slice A0 X.f1.f0.length c0, .slice A1 X.f1.f1.length c1, .int .u32 X.f2.f0, .int .u32 X.f2.f1, .bool X.f2.f2, .int .u8 X.f3.f0, .bool X.f3.f1], .agg #[.int .i64 Y.f0, .slice B0 Y.f1.f0.length b0, .slice B1 Y.f1.f1.length b1, .int .u32 Y.f2.f0, .int .u32 Y.f2.f1, .bool Y.f2.f2, .int .u8 Y.f3.f0, .bool Y.f3.f1], .agg #[.int .i64 Z.f0, .slice D0 Z.f1.f0.length d0, .slice D1 Z.f1.f1.length d1, .int .u32 Z.f2.f0, .int .u32 Z.f2.f1, .bool Z.f2.f2, .int .u8 Z.f3.f0, .bool Z.f3.f1]] w fun e w' => e = .returned (.bool true) ∧ Below w.heap.size w w' := by
  have hu41 := Try.underlying41
  have hu37 := Try.underlying37
  have mxx : ∀ W : World, Below w.heap.size w W → Calls Try.prog 17 #[.agg #[.int .i64 X.f0, .slice A0 X.f1.f0.length c0, .slice A1 X.f1.f1.length c1, .int .u32 X.f2.f0, .int .u32 X.f2.f1, .bool X.f2.f2, .int .u8 X.f3.f0, .bool X.f3.f1], .agg #[.int .i64 X.f0, .slice A0 X.f1.f0.length c0, .slice A1 X.f1.f1.length c1, .int .u32 X.f2.f0, .int .u32 X.f2.f1, .bool X.f2.f2, .int .u8 X.f3.f0, .bool X.f3.f1]] W fun e w' => e = .returned (.bool (Link.mt X X)) ∧ Below W.heap.size W w' := fun W hW =>
    Match_calls X.f0 A0 c0 X.f1.f0 A1 c1 X.f1.f1 _ _ _ _ _ X.f0 A0 c0 X.f1.f0 A1 c1 X.f1.f1 _ _ _ _ _ W (Kd.C_below hx1 hW) hx0 (Kd.C_below hx3 hW) hx2 (Kd.C_below hx1 hW) hx0 (Kd.C_below hx3 hW) hx2
  have mxy : ∀ W : World, Below w.heap.size w W → Calls Try.prog 17 #[.agg #[.int .i64 X.f0, .slice A0 X.f1.f0.length c0, .slice A1 X.f1.f1.length c1, .int .u32 X.f2.f0, .int .u32 X.f2.f1, .bool X.f2.f2, .int .u8 X.f3.f0, .bool X.f3.f1], .agg #[.int .i64 Y.f0, .slice B0 Y.f1.f0.length b0, .slice B1 Y.f1.f1.length b1, .int .u32 Y.f2.f0, .int .u32 Y.f2.f1, .bool Y.f2.f2, .int .u8 Y.f3.f0, .bool Y.f3.f1]] W fun e w' => e = .returned (.bool (Link.mt X Y)) ∧ Below W.heap.size W w' := fun W hW =>
    Match_calls X.f0 A0 c0 X.f1.f0 A1 c1 X.f1.f1 _ _ _ _ _ Y.f0 B0 b0 Y.f1.f0 B1 b1 Y.f1.f1 _ _ _ _ _ W (Kd.C_below hx1 hW) hx0 (Kd.C_below hx3 hW) hx2 (Kd.C_below hy1 hW) hy0 (Kd.C_below hy3 hW) hy2
  have myz : ∀ W : World, Below w.heap.size w W → Calls Try.prog 17 #[.agg #[.int .i64 Y.f0, .slice B0 Y.f1.f0.length b0, .slice B1 Y.f1.f1.length b1, .int .u32 Y.f2.f0, .int .u32 Y.f2.f1, .bool Y.f2.f2, .int .u8 Y.f3.f0, .bool Y.f3.f1], .agg #[.int .i64 Z.f0, .slice D0 Z.f1.f0.length d0, .slice D1 Z.f1.f1.length d1, .int .u32 Z.f2.f0, .int .u32 Z.f2.f1, .bool Z.f2.f2, .int .u8 Z.f3.f0, .bool Z.f3.f1]] W fun e w' => e = .returned (.bool (Link.mt Y Z)) ∧ Below W.heap.size W w' := fun W hW =>
    Match_calls Y.f0 B0 b0 Y.f1.f0 B1 b1 Y.f1.f1 _ _ _ _ _ Z.f0 D0 d0 Z.f1.f0 D1 d1 Z.f1.f1 _ _ _ _ _ W (Kd.C_below hy1 hW) hy0 (Kd.C_below hy3 hW) hy2 (Kd.C_below hz1 hW) hz0 (Kd.C_below hz3 hW) hz2
  have mxz : ∀ W : World, Below w.heap.size w W → Calls Try.prog 17 #[.agg #[.int .i64 X.f0, .slice A0 X.f1.f0.length c0, .slice A1 X.f1.f1.length c1, .int .u32 X.f2.f0, .int .u32 X.f2.f1, .bool X.f2.f2, .int .u8 X.f3.f0, .bool X.f3.f1], .agg #[.int .i64 Z.f0, .slice D0 Z.f1.f0.length d0, .slice D1 Z.f1.f1.length d1, .int .u32 Z.f2.f0, .int .u32 Z.f2.f1, .bool Z.f2.f2, .int .u8 Z.f3.f0, .bool Z.f3.f1]] W fun e w' => e = .returned (.bool (Link.mt X Z)) ∧ Below W.heap.size W w' := fun W hW =>
    Match_calls X.f0 A0 c0 X.f1.f0 A1 c1 X.f1.f1 _ _ _ _ _ Z.f0 D0 d0 Z.f1.f0 D1 d1 Z.f1.f1 _ _ _ _ _ W (Kd.C_below hx1 hW) hx0 (Kd.C_below hx3 hW) hx2 (Kd.C_below hz1 hW) hz0 (Kd.C_below hz3 hW) hz2
  have mxg : ∀ (v : Int) (W : World), Below w.heap.size w W → Calls Try.prog 17 #[.agg #[.int .i64 X.f0, .slice A0 X.f1.f0.length c0, .slice A1 X.f1.f1.length c1, .int .u32 X.f2.f0, .int .u32 X.f2.f1, .bool X.f2.f2, .int .u8 X.f3.f0, .bool X.f3.f1], .agg #[.int .i64 Y.f0, .slice B0 Y.f1.f0.length b0, .slice B1 Y.f1.f1.length b1, .int .u32 v, .int .u32 Y.f2.f1, .bool Y.f2.f2, .int .u8 Y.f3.f0, .bool Y.f3.f1]] W fun e w' => e = .returned (.bool (Link.mt X ⟨Y.f0, Y.f1, ⟨v, Y.f2.f1, Y.f2.f2⟩, Y.f3⟩)) ∧ Below W.heap.size W w' := fun v W hW =>
    Match_calls X.f0 A0 c0 X.f1.f0 A1 c1 X.f1.f1 _ _ _ _ _ Y.f0 B0 b0 Y.f1.f0 B1 b1 Y.f1.f1 v _ _ _ _ W (Kd.C_below hx1 hW) hx0 (Kd.C_below hx3 hW) hx2 (Kd.C_below hy1 hW) hy0 (Kd.C_below hy3 hW) hy2
  have MXG := Aside0.mk mxg
  have hlit : ∀ W : World, Below w.heap.size w W → Kd.C k41 (W.alloc (.cells #[.int .i64 X.f0, .slice A0 X.f1.f0.length c0, .slice A1 X.f1.f1.length c1, .int .u32 X.f2.f0, .int .u32 X.f2.f1, .bool X.f2.f2, .int .u8 X.f3.f0, .bool X.f3.f1, .int .i64 Y.f0, .slice B0 Y.f1.f0.length b0, .slice B1 Y.f1.f1.length b1, .int .u32 Y.f2.f0, .int .u32 Y.f2.f1, .bool Y.f2.f2, .int .u8 Y.f3.f0, .bool Y.f3.f1, .int .i64 Z.f0, .slice D0 Z.f1.f0.length d0, .slice D1 Z.f1.f1.length d1, .int .u32 Z.f2.f0, .int .u32 Z.f2.f1, .bool Z.f2.f2, .int .u8 Z.f3.f0, .bool Z.f3.f1] 41)) (some ⟨W.heap.size, 0, none⟩) [X, Y, Z].length [X, Y, Z] := fun W hW =>
    lit3_C W X Y Z hx0 (Kd.C_below hx1 hW) hx2 (Kd.C_below hx3 hW) hy0 (Kd.C_below hy1 hW) hy2 (Kd.C_below hy3 hW) hz0 (Kd.C_below hz1 hW) hz2 (Kd.C_below hz3 hW) _ rfl
  obtain ⟨f, hf⟩ := few3_calls X Y Z
  have MXX := Aside0.mk mxx
  have MXY := Aside0.mk mxy
  have MYZ := Aside0.mk myz
  have MXZ := Aside0.mk mxz
  have HL := Aside0.mk hlit
  have HF := Aside0.mk hf
  have B3 := box3 w X Y Z A0 A1 B0 B1 D0 D1 c0 c1 b0 b1 d0 d1
  have BX3 := Aside0.mk B3.1
  have BY3 := Aside0.mk B3.2.1
  have BZ3 := Aside0.mk B3.2.2.1
  have HW3 := Aside0.mk B3.2.2.2
  have NY := Aside0.mk ny
  have NZ := Aside0.mk nz
  clear mxx mxy myz mxz mxg hlit hf B3 ny nz hx0 hx1 hx2 hx3 hy0 hy1 hy2 hy3 hz0 hz1 hz2 hz3
  go_enter Try.func4, Try.ntmps4
  go_wp2_with fail
  refine (awake_calls _).mono ?_
  rintro e w1 ⟨rfl, hb⟩
  have HW := Aside0.mk (below_then HW3.out HW3.out.size hb)
  have BX := Aside0.mk (BX3.out.below hb)
  have BY := Aside0.mk (BY3.out.below hb)
  have BZ := Aside0.mk (BZ3.out.below hb)
  clear hb BX3 BY3 BZ3 HW3
  obtain ⟨x0, x1, x2, x3, x4, x5, x6, x7, xf⟩ := BX.out.c; obtain ⟨y0, y1, y2, y3, y4, y5, y6, y7, yf⟩ := BY.out.c; obtain ⟨z0, z1, z2, z3, z4, z5, z6, z7, zf⟩ := BZ.out.c; clear xf yf zf
  go_wp2_with fail
  refine (HF.out _ 3 _ (Nat.le_refl _) (HL.out w1 HW.out)).mono ?_
  rintro e w2 ⟨rfl, hb0⟩
  have hb := below_then (below_alloc (Below.refl w1.heap.size w1) _) (by simp) hb0
  clear hb0 HF HL
  have n0 := Aside0.mk (below_then HW.out HW.out.size hb); have n1 := Aside0.mk (BX.out.below hb); have n2 := Aside0.mk (BY.out.below hb); have n3 := Aside0.mk (BZ.out.below hb); clear HW BX BY BZ hb; clear x0 x1 x2 x3 x4 x5 x6 x7 y0 y1 y2 y3 y4 y5 y6 y7 z0 z1 z2 z3 z4 z5 z6 z7; have HW := n0; have BX := n1; have BY := n2; have BZ := n3; clear n0 n1 n2 n3; obtain ⟨x0, x1, x2, x3, x4, x5, x6, x7, xf⟩ := BX.out.c; obtain ⟨y0, y1, y2, y3, y4, y5, y6, y7, yf⟩ := BY.out.c; obtain ⟨z0, z1, z2, z3, z4, z5, z6, z7, zf⟩ := BZ.out.c; clear xf yf zf
  have dXX : 0 ≤ X.f0 → X.f0 ≤ 3 → Link.mt X X = true := mt_self X
  have dXZ : Link.mt X Y = true → Link.mt Y Z = true → Link.mt X Z = true := mt_trans X Y Z
  have DXX := Aside0.mk dXX
  have DXZ := Aside0.mk dXZ
  clear dXX dXZ
  cases f with
  | false =>
    go_wp2
    go_ret
    exact ⟨rfl, HW.out⟩
  | true =>
    have step7 : ∀ W : World, True := fun _ => trivial
    clear step7
    by_cases q0 : 0 ≤ X.f0
    · have t0 : decide (0 ≤ X.f0) = true := decide_eq_true q0
      by_cases q1 : X.f0 ≤ 3
      · have t1 : decide (X.f0 ≤ 3) = true := decide_eq_true q1
        have M := MXX.out
        rw [DXX.out q0 q1] at M
        have MM := Aside0.mk M
        clear M q0 q1
        go_upto_region 7 with (first | (go_at_call 17; with_reducible refine (MM.out _ HW.out).mono ?_; rintro e_ w_ ⟨rfl, hb⟩; have n0 := Aside0.mk (below_then HW.out HW.out.size hb); have n1 := Aside0.mk (BX.out.below hb); have n2 := Aside0.mk (BY.out.below hb); have n3 := Aside0.mk (BZ.out.below hb); clear HW BX BY BZ hb; clear x0 x1 x2 x3 x4 x5 x6 x7 y0 y1 y2 y3 y4 y5 y6 y7 z0 z1 z2 z3 z4 z5 z6 z7; have HW := n0; have BX := n1; have BY := n2; have BZ := n3; clear n0 n1 n2 n3; obtain ⟨x0, x1, x2, x3, x4, x5, x6, x7, xf⟩ := BX.out.c; obtain ⟨y0, y1, y2, y3, y4, y5, y6, y7, yf⟩ := BY.out.c; obtain ⟨z0, z1, z2, z3, z4, z5, z6, z7, zf⟩ := BZ.out.c; clear xf yf zf) | fail)
        clear MM DXX t0 t1
        cases e1 : Link.mt X Y with
        | false =>
          have M := MXY.out
          rw [e1] at M
          have M1 := Aside0.mk M
          clear M
          go_upto_region 10 with (first | (go_at_call 17; with_reducible refine (M1.out _ HW.out).mono ?_; rintro e_ w_ ⟨rfl, hb⟩; have n0 := Aside0.mk (below_then HW.out HW.out.size hb); have n1 := Aside0.mk (BX.out.below hb); have n2 := Aside0.mk (BY.out.below hb); have n3 := Aside0.mk (BZ.out.below hb); clear HW BX BY BZ hb; clear x0 x1 x2 x3 x4 x5 x6 x7 y0 y1 y2 y3 y4 y5 y6 y7 z0 z1 z2 z3 z4 z5 z6 z7; have HW := n0; have BX := n1; have BY := n2; have BZ := n3; clear n0 n1 n2 n3; obtain ⟨x0, x1, x2, x3, x4, x5, x6, x7, xf⟩ := BX.out.c; obtain ⟨y0, y1, y2, y3, y4, y5, y6, y7, yf⟩ := BY.out.c; obtain ⟨z0, z1, z2, z3, z4, z5, z6, z7, zf⟩ := BZ.out.c; clear xf yf zf) | fail)
          have G := grow9 rfl HW.out BX.out BY.out BZ.out
          generalize (w_.alloc (.cells #[.int .i64 Y.f0, .slice B0 Y.f1.f0.length b0, .slice B1 Y.f1.f1.length b1, .int .u32 Y.f2.f0, .int .u32 Y.f2.f1, .bool Y.f2.f2, .int .u8 Y.f3.f0, .bool Y.f3.f1] 41)) = w9 at G ⊢
          generalize w_.heap.size = qg at G ⊢
          obtain ⟨g1, g2, g3, g4, g5, g6⟩ := G
          clear HW BX BY BZ
          clear x0 x1 x2 x3 x4 x5 x6 x7 y0 y1 y2 y3 y4 y5 y6 y7 z0 z1 z2 z3 z4 z5 z6 z7
          have BX := Aside0.mk g1
          have BY := Aside0.mk g2
          have BZ := Aside0.mk g3
          have BG := Aside0.mk g4
          have HW := Aside0.mk g5
          have HQ := Aside0.mk g6
          clear g1 g2 g3 g4 g5 g6
          obtain ⟨x0, x1, x2, x3, x4, x5, x6, x7, xf⟩ := BX.out.c; obtain ⟨y0, y1, y2, y3, y4, y5, y6, y7, yf⟩ := BY.out.c; obtain ⟨z0, z1, z2, z3, z4, z5, z6, z7, zf⟩ := BZ.out.c; clear xf yf zf
          obtain ⟨g0, g1, g2, g3, g4, g5, g6, g7, gf⟩ := BG.out.c
          by_cases gr : Y.f2.f0 < 2147483648
          · have gd : decide (Y.f2.f0 < 2147483648) = true := decide_eq_true gr
            have dG : Link.mt X Y = true → Link.mt X ⟨Y.f0, Y.f1, ⟨Y.f2.f0 + Z.f2.f0 % 5, Y.f2.f1, Y.f2.f2⟩, Y.f3⟩ = true := fun h => by
              have := mt_grown X Y Z NZ.out.1 h
              unfold grown at this
              rwa [if_pos gr] at this
            have MG := MXG.out (Y.f2.f0 + Z.f2.f0 % 5)
            have MGG := Aside0.mk MG
            clear MG dG
            obtain ⟨ny0, ny1⟩ := NY.out
            obtain ⟨nz0, nz1⟩ := NZ.out
            go_upto_region 12 with (fail)
            have G := grow12 rfl HW.out BX.out BY.out BZ.out BG.out HQ.out (Y.f2.f0 + Z.f2.f0 % 5)
            generalize (w9.setCell ⟨qg, 3, none⟩ (.int .u32 (Y.f2.f0 + Z.f2.f0 % 5))) = w12 at G ⊢
            clear g0 g1 g2 g3 g4 g5 g6 g7 gf
            obtain ⟨g1, g2, g3, g4, g5⟩ := G
            clear HW BX BY BZ BG
            clear x0 x1 x2 x3 x4 x5 x6 x7 y0 y1 y2 y3 y4 y5 y6 y7 z0 z1 z2 z3 z4 z5 z6 z7
            have BX := Aside0.mk g1
            have BY := Aside0.mk g2
            have BZ := Aside0.mk g3
            have BG := Aside0.mk g4
            have HW := Aside0.mk g5
            clear g1 g2 g3 g4 g5
            obtain ⟨x0, x1, x2, x3, x4, x5, x6, x7, xf⟩ := BX.out.c; obtain ⟨y0, y1, y2, y3, y4, y5, y6, y7, yf⟩ := BY.out.c; obtain ⟨z0, z1, z2, z3, z4, z5, z6, z7, zf⟩ := BZ.out.c; clear xf yf zf
            obtain ⟨g0, g1, g2, g3, g4, g5, g6, g7, gf⟩ := BG.out.c
            go_wp2_with (first | (go_at_call 17; with_reducible refine (M1.out _ HW.out).mono ?_; rintro e_ w_ ⟨rfl, hb⟩; have n0 := Aside0.mk (below_then HW.out HW.out.size hb); have n1 := Aside0.mk (BX.out.below hb); have n2 := Aside0.mk (BY.out.below hb); have n3 := Aside0.mk (BZ.out.below hb); have n4 := Aside0.mk (BG.out.below hb); clear HW BX BY BZ BG hb; clear g0 g1 g2 g3 g4 g5 g6 g7 gf; clear x0 x1 x2 x3 x4 x5 x6 x7 y0 y1 y2 y3 y4 y5 y6 y7 z0 z1 z2 z3 z4 z5 z6 z7; have HW := n0; have BX := n1; have BY := n2; have BZ := n3; have BG := n4; clear n0 n1 n2 n3 n4; obtain ⟨x0, x1, x2, x3, x4, x5, x6, x7, xf⟩ := BX.out.c; obtain ⟨y0, y1, y2, y3, y4, y5, y6, y7, yf⟩ := BY.out.c; obtain ⟨z0, z1, z2, z3, z4, z5, z6, z7, zf⟩ := BZ.out.c; clear xf yf zf; obtain ⟨g0, g1, g2, g3, g4, g5, g6, g7, gf⟩ := BG.out.c) | (go_at_call 17; with_reducible refine (MGG.out _ HW.out).mono ?_; rintro e_ w_ ⟨rfl, hb⟩; have n0 := Aside0.mk (below_then HW.out HW.out.size hb); have n1 := Aside0.mk (BX.out.below hb); have n2 := Aside0.mk (BY.out.below hb); have n3 := Aside0.mk (BZ.out.below hb); have n4 := Aside0.mk (BG.out.below hb); clear HW BX BY BZ BG hb; clear g0 g1 g2 g3 g4 g5 g6 g7 gf; clear x0 x1 x2 x3 x4 x5 x6 x7 y0 y1 y2 y3 y4 y5 y6 y7 z0 z1 z2 z3 z4 z5 z6 z7; have HW := n0; have BX := n1; have BY := n2; have BZ := n3; have BG := n4; clear n0 n1 n2 n3 n4; obtain ⟨x0, x1, x2, x3, x4, x5, x6, x7, xf⟩ := BX.out.c; obtain ⟨y0, y1, y2, y3, y4, y5, y6, y7, yf⟩ := BY.out.c; obtain ⟨z0, z1, z2, z3, z4, z5, z6, z7, zf⟩ := BZ.out.c; clear xf yf zf; obtain ⟨g0, g1, g2, g3, g4, g5, g6, g7, gf⟩ := BG.out.c) | fail)
            go_ret
            exact ⟨rfl, HW.out⟩
          · have gd : decide (Y.f2.f0 < 2147483648) = false := decide_eq_false gr
            clear gr
            go_wp2_with (first | (go_at_call 17; with_reducible refine (M1.out _ HW.out).mono ?_; rintro e_ w_ ⟨rfl, hb⟩; have n0 := Aside0.mk (below_then HW.out HW.out.size hb); have n1 := Aside0.mk (BX.out.below hb); have n2 := Aside0.mk (BY.out.below hb); have n3 := Aside0.mk (BZ.out.below hb); have n4 := Aside0.mk (BG.out.below hb); clear HW BX BY BZ BG hb; clear g0 g1 g2 g3 g4 g5 g6 g7 gf; clear x0 x1 x2 x3 x4 x5 x6 x7 y0 y1 y2 y3 y4 y5 y6 y7 z0 z1 z2 z3 z4 z5 z6 z7; have HW := n0; have BX := n1; have BY := n2; have BZ := n3; have BG := n4; clear n0 n1 n2 n3 n4; obtain ⟨x0, x1, x2, x3, x4, x5, x6, x7, xf⟩ := BX.out.c; obtain ⟨y0, y1, y2, y3, y4, y5, y6, y7, yf⟩ := BY.out.c; obtain ⟨z0, z1, z2, z3, z4, z5, z6, z7, zf⟩ := BZ.out.c; clear xf yf zf; obtain ⟨g0, g1, g2, g3, g4, g5, g6, g7, gf⟩ := BG.out.c) | fail)
            go_ret
            exact ⟨rfl, HW.out⟩
        | true =>
          have M := MXY.out
          rw [e1] at M
          have M1 := Aside0.mk M
          clear M
          cases e2 : Link.mt Y Z with
          | false =>
            have M := MYZ.out
            rw [e2] at M
            have M2 := Aside0.mk M
            clear M
            go_upto_region 10 with (first | (go_at_call 17; with_reducible refine (M1.out _ HW.out).mono ?_; rintro e_ w_ ⟨rfl, hb⟩; have n0 := Aside0.mk (below_then HW.out HW.out.size hb); have n1 := Aside0.mk (BX.out.below hb); have n2 := Aside0.mk (BY.out.below hb); have n3 := Aside0.mk (BZ.out.below hb); clear HW BX BY BZ hb; clear x0 x1 x2 x3 x4 x5 x6 x7 y0 y1 y2 y3 y4 y5 y6 y7 z0 z1 z2 z3 z4 z5 z6 z7; have HW := n0; have BX := n1; have BY := n2; have BZ := n3; clear n0 n1 n2 n3; obtain ⟨x0, x1, x2, x3, x4, x5, x6, x7, xf⟩ := BX.out.c; obtain ⟨y0, y1, y2, y3, y4, y5, y6, y7, yf⟩ := BY.out.c; obtain ⟨z0, z1, z2, z3, z4, z5, z6, z7, zf⟩ := BZ.out.c; clear xf yf zf) | (go_at_call 17; with_reducible refine (M2.out _ HW.out).mono ?_; rintro e_ w_ ⟨rfl, hb⟩; have n0 := Aside0.mk (below_then HW.out HW.out.size hb); have n1 := Aside0.mk (BX.out.below hb); have n2 := Aside0.mk (BY.out.below hb); have n3 := Aside0.mk (BZ.out.below hb); clear HW BX BY BZ hb; clear x0 x1 x2 x3 x4 x5 x6 x7 y0 y1 y2 y3 y4 y5 y6 y7 z0 z1 z2 z3 z4 z5 z6 z7; have HW := n0; have BX := n1; have BY := n2; have BZ := n3; clear n0 n1 n2 n3; obtain ⟨x0, x1, x2, x3, x4, x5, x6, x7, xf⟩ := BX.out.c; obtain ⟨y0, y1, y2, y3, y4, y5, y6, y7, yf⟩ := BY.out.c; obtain ⟨z0, z1, z2, z3, z4, z5, z6, z7, zf⟩ := BZ.out.c; clear xf yf zf) | fail)
            have G := grow9 rfl HW.out BX.out BY.out BZ.out
            generalize (w_.alloc (.cells #[.int .i64 Y.f0, .slice B0 Y.f1.f0.length b0, .slice B1 Y.f1.f1.length b1, .int .u32 Y.f2.f0, .int .u32 Y.f2.f1, .bool Y.f2.f2, .int .u8 Y.f3.f0, .bool Y.f3.f1] 41)) = w9 at G ⊢
            generalize w_.heap.size = qg at G ⊢
            obtain ⟨g1, g2, g3, g4, g5, g6⟩ := G
            clear HW BX BY BZ
            clear x0 x1 x2 x3 x4 x5 x6 x7 y0 y1 y2 y3 y4 y5 y6 y7 z0 z1 z2 z3 z4 z5 z6 z7
            have BX := Aside0.mk g1
            have BY := Aside0.mk g2
            have BZ := Aside0.mk g3
            have BG := Aside0.mk g4
            have HW := Aside0.mk g5
            have HQ := Aside0.mk g6
            clear g1 g2 g3 g4 g5 g6
            obtain ⟨x0, x1, x2, x3, x4, x5, x6, x7, xf⟩ := BX.out.c; obtain ⟨y0, y1, y2, y3, y4, y5, y6, y7, yf⟩ := BY.out.c; obtain ⟨z0, z1, z2, z3, z4, z5, z6, z7, zf⟩ := BZ.out.c; clear xf yf zf
            obtain ⟨g0, g1, g2, g3, g4, g5, g6, g7, gf⟩ := BG.out.c
            by_cases gr : Y.f2.f0 < 2147483648
            · have gd : decide (Y.f2.f0 < 2147483648) = true := decide_eq_true gr
              have dG : Link.mt X Y = true → Link.mt X ⟨Y.f0, Y.f1, ⟨Y.f2.f0 + Z.f2.f0 % 5, Y.f2.f1, Y.f2.f2⟩, Y.f3⟩ = true := fun h => by
                have := mt_grown X Y Z NZ.out.1 h
                unfold grown at this
                rwa [if_pos gr] at this
              have MG := MXG.out (Y.f2.f0 + Z.f2.f0 % 5)
              rw [dG e1] at MG
              have MGG := Aside0.mk MG
              clear MG dG
              obtain ⟨ny0, ny1⟩ := NY.out
              obtain ⟨nz0, nz1⟩ := NZ.out
              go_upto_region 12 with (fail)
              have G := grow12 rfl HW.out BX.out BY.out BZ.out BG.out HQ.out (Y.f2.f0 + Z.f2.f0 % 5)
              generalize (w9.setCell ⟨qg, 3, none⟩ (.int .u32 (Y.f2.f0 + Z.f2.f0 % 5))) = w12 at G ⊢
              clear g0 g1 g2 g3 g4 g5 g6 g7 gf
              obtain ⟨g1, g2, g3, g4, g5⟩ := G
              clear HW BX BY BZ BG
              clear x0 x1 x2 x3 x4 x5 x6 x7 y0 y1 y2 y3 y4 y5 y6 y7 z0 z1 z2 z3 z4 z5 z6 z7
              have BX := Aside0.mk g1
              have BY := Aside0.mk g2
              have BZ := Aside0.mk g3
              have BG := Aside0.mk g4
              have HW := Aside0.mk g5
              clear g1 g2 g3 g4 g5
              obtain ⟨x0, x1, x2, x3, x4, x5, x6, x7, xf⟩ := BX.out.c; obtain ⟨y0, y1, y2, y3, y4, y5, y6, y7, yf⟩ := BY.out.c; obtain ⟨z0, z1, z2, z3, z4, z5, z6, z7, zf⟩ := BZ.out.c; clear xf yf zf
              obtain ⟨g0, g1, g2, g3, g4, g5, g6, g7, gf⟩ := BG.out.c
              go_wp2_with (first | (go_at_call 17; with_reducible refine (M1.out _ HW.out).mono ?_; rintro e_ w_ ⟨rfl, hb⟩; have n0 := Aside0.mk (below_then HW.out HW.out.size hb); have n1 := Aside0.mk (BX.out.below hb); have n2 := Aside0.mk (BY.out.below hb); have n3 := Aside0.mk (BZ.out.below hb); have n4 := Aside0.mk (BG.out.below hb); clear HW BX BY BZ BG hb; clear g0 g1 g2 g3 g4 g5 g6 g7 gf; clear x0 x1 x2 x3 x4 x5 x6 x7 y0 y1 y2 y3 y4 y5 y6 y7 z0 z1 z2 z3 z4 z5 z6 z7; have HW := n0; have BX := n1; have BY := n2; have BZ := n3; have BG := n4; clear n0 n1 n2 n3 n4; obtain ⟨x0, x1, x2, x3, x4, x5, x6, x7, xf⟩ := BX.out.c; obtain ⟨y0, y1, y2, y3, y4, y5, y6, y7, yf⟩ := BY.out.c; obtain ⟨z0, z1, z2, z3, z4, z5, z6, z7, zf⟩ := BZ.out.c; clear xf yf zf; obtain ⟨g0, g1, g2, g3, g4, g5, g6, g7, gf⟩ := BG.out.c) | (go_at_call 17; with_reducible refine (MGG.out _ HW.out).mono ?_; rintro e_ w_ ⟨rfl, hb⟩; have n0 := Aside0.mk (below_then HW.out HW.out.size hb); have n1 := Aside0.mk (BX.out.below hb); have n2 := Aside0.mk (BY.out.below hb); have n3 := Aside0.mk (BZ.out.below hb); have n4 := Aside0.mk (BG.out.below hb); clear HW BX BY BZ BG hb; clear g0 g1 g2 g3 g4 g5 g6 g7 gf; clear x0 x1 x2 x3 x4 x5 x6 x7 y0 y1 y2 y3 y4 y5 y6 y7 z0 z1 z2 z3 z4 z5 z6 z7; have HW := n0; have BX := n1; have BY := n2; have BZ := n3; have BG := n4; clear n0 n1 n2 n3 n4; obtain ⟨x0, x1, x2, x3, x4, x5, x6, x7, xf⟩ := BX.out.c; obtain ⟨y0, y1, y2, y3, y4, y5, y6, y7, yf⟩ := BY.out.c; obtain ⟨z0, z1, z2, z3, z4, z5, z6, z7, zf⟩ := BZ.out.c; clear xf yf zf; obtain ⟨g0, g1, g2, g3, g4, g5, g6, g7, gf⟩ := BG.out.c) | fail)
              go_ret
              exact ⟨rfl, HW.out⟩
            · have gd : decide (Y.f2.f0 < 2147483648) = false := decide_eq_false gr
              clear gr
              go_wp2_with (first | (go_at_call 17; with_reducible refine (M1.out _ HW.out).mono ?_; rintro e_ w_ ⟨rfl, hb⟩; have n0 := Aside0.mk (below_then HW.out HW.out.size hb); have n1 := Aside0.mk (BX.out.below hb); have n2 := Aside0.mk (BY.out.below hb); have n3 := Aside0.mk (BZ.out.below hb); have n4 := Aside0.mk (BG.out.below hb); clear HW BX BY BZ BG hb; clear g0 g1 g2 g3 g4 g5 g6 g7 gf; clear x0 x1 x2 x3 x4 x5 x6 x7 y0 y1 y2 y3 y4 y5 y6 y7 z0 z1 z2 z3 z4 z5 z6 z7; have HW := n0; have BX := n1; have BY := n2; have BZ := n3; have BG := n4; clear n0 n1 n2 n3 n4; obtain ⟨x0, x1, x2, x3, x4, x5, x6, x7, xf⟩ := BX.out.c; obtain ⟨y0, y1, y2, y3, y4, y5, y6, y7, yf⟩ := BY.out.c; obtain ⟨z0, z1, z2, z3, z4, z5, z6, z7, zf⟩ := BZ.out.c; clear xf yf zf; obtain ⟨g0, g1, g2, g3, g4, g5, g6, g7, gf⟩ := BG.out.c) | fail)
              go_ret
              exact ⟨rfl, HW.out⟩
          | true =>
            have M := MYZ.out
            rw [e2] at M
            have M2 := Aside0.mk M
            clear M
            have M := MXZ.out
            rw [DXZ.out e1 e2] at M
            have M3 := Aside0.mk M
            clear M
            go_upto_region 10 with (first | (go_at_call 17; with_reducible refine (M1.out _ HW.out).mono ?_; rintro e_ w_ ⟨rfl, hb⟩; have n0 := Aside0.mk (below_then HW.out HW.out.size hb); have n1 := Aside0.mk (BX.out.below hb); have n2 := Aside0.mk (BY.out.below hb); have n3 := Aside0.mk (BZ.out.below hb); clear HW BX BY BZ hb; clear x0 x1 x2 x3 x4 x5 x6 x7 y0 y1 y2 y3 y4 y5 y6 y7 z0 z1 z2 z3 z4 z5 z6 z7; have HW := n0; have BX := n1; have BY := n2; have BZ := n3; clear n0 n1 n2 n3; obtain ⟨x0, x1, x2, x3, x4, x5, x6, x7, xf⟩ := BX.out.c; obtain ⟨y0, y1, y2, y3, y4, y5, y6, y7, yf⟩ := BY.out.c; obtain ⟨z0, z1, z2, z3, z4, z5, z6, z7, zf⟩ := BZ.out.c; clear xf yf zf) | (go_at_call 17; with_reducible refine (M2.out _ HW.out).mono ?_; rintro e_ w_ ⟨rfl, hb⟩; have n0 := Aside0.mk (below_then HW.out HW.out.size hb); have n1 := Aside0.mk (BX.out.below hb); have n2 := Aside0.mk (BY.out.below hb); have n3 := Aside0.mk (BZ.out.below hb); clear HW BX BY BZ hb; clear x0 x1 x2 x3 x4 x5 x6 x7 y0 y1 y2 y3 y4 y5 y6 y7 z0 z1 z2 z3 z4 z5 z6 z7; have HW := n0; have BX := n1; have BY := n2; have BZ := n3; clear n0 n1 n2 n3; obtain ⟨x0, x1, x2, x3, x4, x5, x6, x7, xf⟩ := BX.out.c; obtain ⟨y0, y1, y2, y3, y4, y5, y6, y7, yf⟩ := BY.out.c; obtain ⟨z0, z1, z2, z3, z4, z5, z6, z7, zf⟩ := BZ.out.c; clear xf yf zf) | (go_at_call 17; with_reducible refine (M3.out _ HW.out).mono ?_; rintro e_ w_ ⟨rfl, hb⟩; have n0 := Aside0.mk (below_then HW.out HW.out.size hb); have n1 := Aside0.mk (BX.out.below hb); have n2 := Aside0.mk (BY.out.below hb); have n3 := Aside0.mk (BZ.out.below hb); clear HW BX BY BZ hb; clear x0 x1 x2 x3 x4 x5 x6 x7 y0 y1 y2 y3 y4 y5 y6 y7 z0 z1 z2 z3 z4 z5 z6 z7; have HW := n0; have BX := n1; have BY := n2; have BZ := n3; clear n0 n1 n2 n3; obtain ⟨x0, x1, x2, x3, x4, x5, x6, x7, xf⟩ := BX.out.c; obtain ⟨y0, y1, y2, y3, y4, y5, y6, y7, yf⟩ := BY.out.c; obtain ⟨z0, z1, z2, z3, z4, z5, z6, z7, zf⟩ := BZ.out.c; clear xf yf zf) | fail)
            have G := grow9 rfl HW.out BX.out BY.out BZ.out
            generalize (w_.alloc (.cells #[.int .i64 Y.f0, .slice B0 Y.f1.f0.length b0, .slice B1 Y.f1.f1.length b1, .int .u32 Y.f2.f0, .int .u32 Y.f2.f1, .bool Y.f2.f2, .int .u8 Y.f3.f0, .bool Y.f3.f1] 41)) = w9 at G ⊢
            generalize w_.heap.size = qg at G ⊢
            obtain ⟨g1, g2, g3, g4, g5, g6⟩ := G
            clear HW BX BY BZ
            clear x0 x1 x2 x3 x4 x5 x6 x7 y0 y1 y2 y3 y4 y5 y6 y7 z0 z1 z2 z3 z4 z5 z6 z7
            have BX := Aside0.mk g1
            have BY := Aside0.mk g2
            have BZ := Aside0.mk g3
            have BG := Aside0.mk g4
            have HW := Aside0.mk g5
            have HQ := Aside0.mk g6
            clear g1 g2 g3 g4 g5 g6
            obtain ⟨x0, x1, x2, x3, x4, x5, x6, x7, xf⟩ := BX.out.c; obtain ⟨y0, y1, y2, y3, y4, y5, y6, y7, yf⟩ := BY.out.c; obtain ⟨z0, z1, z2, z3, z4, z5, z6, z7, zf⟩ := BZ.out.c; clear xf yf zf
            obtain ⟨g0, g1, g2, g3, g4, g5, g6, g7, gf⟩ := BG.out.c
            by_cases gr : Y.f2.f0 < 2147483648
            · have gd : decide (Y.f2.f0 < 2147483648) = true := decide_eq_true gr
              have dG : Link.mt X Y = true → Link.mt X ⟨Y.f0, Y.f1, ⟨Y.f2.f0 + Z.f2.f0 % 5, Y.f2.f1, Y.f2.f2⟩, Y.f3⟩ = true := fun h => by
                have := mt_grown X Y Z NZ.out.1 h
                unfold grown at this
                rwa [if_pos gr] at this
              have MG := MXG.out (Y.f2.f0 + Z.f2.f0 % 5)
              rw [dG e1] at MG
              have MGG := Aside0.mk MG
              clear MG dG
              obtain ⟨ny0, ny1⟩ := NY.out
              obtain ⟨nz0, nz1⟩ := NZ.out
              go_upto_region 12 with (fail)
              have G := grow12 rfl HW.out BX.out BY.out BZ.out BG.out HQ.out (Y.f2.f0 + Z.f2.f0 % 5)
              generalize (w9.setCell ⟨qg, 3, none⟩ (.int .u32 (Y.f2.f0 + Z.f2.f0 % 5))) = w12 at G ⊢
              clear g0 g1 g2 g3 g4 g5 g6 g7 gf
              obtain ⟨g1, g2, g3, g4, g5⟩ := G
              clear HW BX BY BZ BG
              clear x0 x1 x2 x3 x4 x5 x6 x7 y0 y1 y2 y3 y4 y5 y6 y7 z0 z1 z2 z3 z4 z5 z6 z7
              have BX := Aside0.mk g1
              have BY := Aside0.mk g2
              have BZ := Aside0.mk g3
              have BG := Aside0.mk g4
              have HW := Aside0.mk g5
              clear g1 g2 g3 g4 g5
              obtain ⟨x0, x1, x2, x3, x4, x5, x6, x7, xf⟩ := BX.out.c; obtain ⟨y0, y1, y2, y3, y4, y5, y6, y7, yf⟩ := BY.out.c; obtain ⟨z0, z1, z2, z3, z4, z5, z6, z7, zf⟩ := BZ.out.c; clear xf yf zf
              obtain ⟨g0, g1, g2, g3, g4, g5, g6, g7, gf⟩ := BG.out.c
              go_wp2_with (first | (go_at_call 17; with_reducible refine (M1.out _ HW.out).mono ?_; rintro e_ w_ ⟨rfl, hb⟩; have n0 := Aside0.mk (below_then HW.out HW.out.size hb); have n1 := Aside0.mk (BX.out.below hb); have n2 := Aside0.mk (BY.out.below hb); have n3 := Aside0.mk (BZ.out.below hb); have n4 := Aside0.mk (BG.out.below hb); clear HW BX BY BZ BG hb; clear g0 g1 g2 g3 g4 g5 g6 g7 gf; clear x0 x1 x2 x3 x4 x5 x6 x7 y0 y1 y2 y3 y4 y5 y6 y7 z0 z1 z2 z3 z4 z5 z6 z7; have HW := n0; have BX := n1; have BY := n2; have BZ := n3; have BG := n4; clear n0 n1 n2 n3 n4; obtain ⟨x0, x1, x2, x3, x4, x5, x6, x7, xf⟩ := BX.out.c; obtain ⟨y0, y1, y2, y3, y4, y5, y6, y7, yf⟩ := BY.out.c; obtain ⟨z0, z1, z2, z3, z4, z5, z6, z7, zf⟩ := BZ.out.c; clear xf yf zf; obtain ⟨g0, g1, g2, g3, g4, g5, g6, g7, gf⟩ := BG.out.c) | (go_at_call 17; with_reducible refine (MGG.out _ HW.out).mono ?_; rintro e_ w_ ⟨rfl, hb⟩; have n0 := Aside0.mk (below_then HW.out HW.out.size hb); have n1 := Aside0.mk (BX.out.below hb); have n2 := Aside0.mk (BY.out.below hb); have n3 := Aside0.mk (BZ.out.below hb); have n4 := Aside0.mk (BG.out.below hb); clear HW BX BY BZ BG hb; clear g0 g1 g2 g3 g4 g5 g6 g7 gf; clear x0 x1 x2 x3 x4 x5 x6 x7 y0 y1 y2 y3 y4 y5 y6 y7 z0 z1 z2 z3 z4 z5 z6 z7; have HW := n0; have BX := n1; have BY := n2; have BZ := n3; have BG := n4; clear n0 n1 n2 n3 n4; obtain ⟨x0, x1, x2, x3, x4, x5, x6, x7, xf⟩ := BX.out.c; obtain ⟨y0, y1, y2, y3, y4, y5, y6, y7, yf⟩ := BY.out.c; obtain ⟨z0, z1, z2, z3, z4, z5, z6, z7, zf⟩ := BZ.out.c; clear xf yf zf; obtain ⟨g0, g1, g2, g3, g4, g5, g6, g7, gf⟩ := BG.out.c) | fail)
              go_ret
              exact ⟨rfl, HW.out⟩
            · have gd : decide (Y.f2.f0 < 2147483648) = false := decide_eq_false gr
              clear gr
              go_wp2_with (first | (go_at_call 17; with_reducible refine (M1.out _ HW.out).mono ?_; rintro e_ w_ ⟨rfl, hb⟩; have n0 := Aside0.mk (below_then HW.out HW.out.size hb); have n1 := Aside0.mk (BX.out.below hb); have n2 := Aside0.mk (BY.out.below hb); have n3 := Aside0.mk (BZ.out.below hb); have n4 := Aside0.mk (BG.out.below hb); clear HW BX BY BZ BG hb; clear g0 g1 g2 g3 g4 g5 g6 g7 gf; clear x0 x1 x2 x3 x4 x5 x6 x7 y0 y1 y2 y3 y4 y5 y6 y7 z0 z1 z2 z3 z4 z5 z6 z7; have HW := n0; have BX := n1; have BY := n2; have BZ := n3; have BG := n4; clear n0 n1 n2 n3 n4; obtain ⟨x0, x1, x2, x3, x4, x5, x6, x7, xf⟩ := BX.out.c; obtain ⟨y0, y1, y2, y3, y4, y5, y6, y7, yf⟩ := BY.out.c; obtain ⟨z0, z1, z2, z3, z4, z5, z6, z7, zf⟩ := BZ.out.c; clear xf yf zf; obtain ⟨g0, g1, g2, g3, g4, g5, g6, g7, gf⟩ := BG.out.c) | fail)
              go_ret
              exact ⟨rfl, HW.out⟩
      · have t1 : decide (X.f0 ≤ 3) = false := decide_eq_false q1
        clear q0 q1
        go_upto_region 7 with (fail)
        clear DXX t0 t1
        cases e1 : Link.mt X Y with
        | false =>
          have M := MXY.out
          rw [e1] at M
          have M1 := Aside0.mk M
          clear M
          go_upto_region 10 with (first | (go_at_call 17; with_reducible refine (M1.out _ HW.out).mono ?_; rintro e_ w_ ⟨rfl, hb⟩; have n0 := Aside0.mk (below_then HW.out HW.out.size hb); have n1 := Aside0.mk (BX.out.below hb); have n2 := Aside0.mk (BY.out.below hb); have n3 := Aside0.mk (BZ.out.below hb); clear HW BX BY BZ hb; clear x0 x1 x2 x3 x4 x5 x6 x7 y0 y1 y2 y3 y4 y5 y6 y7 z0 z1 z2 z3 z4 z5 z6 z7; have HW := n0; have BX := n1; have BY := n2; have BZ := n3; clear n0 n1 n2 n3; obtain ⟨x0, x1, x2, x3, x4, x5, x6, x7, xf⟩ := BX.out.c; obtain ⟨y0, y1, y2, y3, y4, y5, y6, y7, yf⟩ := BY.out.c; obtain ⟨z0, z1, z2, z3, z4, z5, z6, z7, zf⟩ := BZ.out.c; clear xf yf zf) | fail)
          have G := grow9 rfl HW.out BX.out BY.out BZ.out
          generalize (w_.alloc (.cells #[.int .i64 Y.f0, .slice B0 Y.f1.f0.length b0, .slice B1 Y.f1.f1.length b1, .int .u32 Y.f2.f0, .int .u32 Y.f2.f1, .bool Y.f2.f2, .int .u8 Y.f3.f0, .bool Y.f3.f1] 41)) = w9 at G ⊢
          generalize w_.heap.size = qg at G ⊢
          obtain ⟨g1, g2, g3, g4, g5, g6⟩ := G
          clear HW BX BY BZ
          clear x0 x1 x2 x3 x4 x5 x6 x7 y0 y1 y2 y3 y4 y5 y6 y7 z0 z1 z2 z3 z4 z5 z6 z7
          have BX := Aside0.mk g1
          have BY := Aside0.mk g2
          have BZ := Aside0.mk g3
          have BG := Aside0.mk g4
          have HW := Aside0.mk g5
          have HQ := Aside0.mk g6
          clear g1 g2 g3 g4 g5 g6
          obtain ⟨x0, x1, x2, x3, x4, x5, x6, x7, xf⟩ := BX.out.c; obtain ⟨y0, y1, y2, y3, y4, y5, y6, y7, yf⟩ := BY.out.c; obtain ⟨z0, z1, z2, z3, z4, z5, z6, z7, zf⟩ := BZ.out.c; clear xf yf zf
          obtain ⟨g0, g1, g2, g3, g4, g5, g6, g7, gf⟩ := BG.out.c
          by_cases gr : Y.f2.f0 < 2147483648
          · have gd : decide (Y.f2.f0 < 2147483648) = true := decide_eq_true gr
            have dG : Link.mt X Y = true → Link.mt X ⟨Y.f0, Y.f1, ⟨Y.f2.f0 + Z.f2.f0 % 5, Y.f2.f1, Y.f2.f2⟩, Y.f3⟩ = true := fun h => by
              have := mt_grown X Y Z NZ.out.1 h
              unfold grown at this
              rwa [if_pos gr] at this
            have MG := MXG.out (Y.f2.f0 + Z.f2.f0 % 5)
            have MGG := Aside0.mk MG
            clear MG dG
            obtain ⟨ny0, ny1⟩ := NY.out
            obtain ⟨nz0, nz1⟩ := NZ.out
            go_upto_region 12 with (fail)
            have G := grow12 rfl HW.out BX.out BY.out BZ.out BG.out HQ.out (Y.f2.f0 + Z.f2.f0 % 5)
            generalize (w9.setCell ⟨qg, 3, none⟩ (.int .u32 (Y.f2.f0 + Z.f2.f0 % 5))) = w12 at G ⊢
            clear g0 g1 g2 g3 g4 g5 g6 g7 gf
            obtain ⟨g1, g2, g3, g4, g5⟩ := G
            clear HW BX BY BZ BG
            clear x0 x1 x2 x3 x4 x5 x6 x7 y0 y1 y2 y3 y4 y5 y6 y7 z0 z1 z2 z3 z4 z5 z6 z7
            have BX := Aside0.mk g1
            have BY := Aside0.mk g2
            have BZ := Aside0.mk g3
            have BG := Aside0.mk g4
            have HW := Aside0.mk g5
            clear g1 g2 g3 g4 g5
            obtain ⟨x0, x1, x2, x3, x4, x5, x6, x7, xf⟩ := BX.out.c; obtain ⟨y0, y1, y2, y3, y4, y5, y6, y7, yf⟩ := BY.out.c; obtain ⟨z0, z1, z2, z3, z4, z5, z6, z7, zf⟩ := BZ.out.c; clear xf yf zf
            obtain ⟨g0, g1, g2, g3, g4, g5, g6, g7, gf⟩ := BG.out.c
            go_wp2_with (first | (go_at_call 17; with_reducible refine (M1.out _ HW.out).mono ?_; rintro e_ w_ ⟨rfl, hb⟩; have n0 := Aside0.mk (below_then HW.out HW.out.size hb); have n1 := Aside0.mk (BX.out.below hb); have n2 := Aside0.mk (BY.out.below hb); have n3 := Aside0.mk (BZ.out.below hb); have n4 := Aside0.mk (BG.out.below hb); clear HW BX BY BZ BG hb; clear g0 g1 g2 g3 g4 g5 g6 g7 gf; clear x0 x1 x2 x3 x4 x5 x6 x7 y0 y1 y2 y3 y4 y5 y6 y7 z0 z1 z2 z3 z4 z5 z6 z7; have HW := n0; have BX := n1; have BY := n2; have BZ := n3; have BG := n4; clear n0 n1 n2 n3 n4; obtain ⟨x0, x1, x2, x3, x4, x5, x6, x7, xf⟩ := BX.out.c; obtain ⟨y0, y1, y2, y3, y4, y5, y6, y7, yf⟩ := BY.out.c; obtain ⟨z0, z1, z2, z3, z4, z5, z6, z7, zf⟩ := BZ.out.c; clear xf yf zf; obtain ⟨g0, g1, g2, g3, g4, g5, g6, g7, gf⟩ := BG.out.c) | (go_at_call 17; with_reducible refine (MGG.out _ HW.out).mono ?_; rintro e_ w_ ⟨rfl, hb⟩; have n0 := Aside0.mk (below_then HW.out HW.out.size hb); have n1 := Aside0.mk (BX.out.below hb); have n2 := Aside0.mk (BY.out.below hb); have n3 := Aside0.mk (BZ.out.below hb); have n4 := Aside0.mk (BG.out.below hb); clear HW BX BY BZ BG hb; clear g0 g1 g2 g3 g4 g5 g6 g7 gf; clear x0 x1 x2 x3 x4 x5 x6 x7 y0 y1 y2 y3 y4 y5 y6 y7 z0 z1 z2 z3 z4 z5 z6 z7; have HW := n0; have BX := n1; have BY := n2; have BZ := n3; have BG := n4; clear n0 n1 n2 n3 n4; obtain ⟨x0, x1, x2, x3, x4, x5, x6, x7, xf⟩ := BX.out.c; obtain ⟨y0, y1, y2, y3, y4, y5, y6, y7, yf⟩ := BY.out.c; obtain ⟨z0, z1, z2, z3, z4, z5, z6, z7, zf⟩ := BZ.out.c; clear xf yf zf; obtain ⟨g0, g1, g2, g3, g4, g5, g6, g7, gf⟩ := BG.out.c) | fail)
            go_ret
            exact ⟨rfl, HW.out⟩
          · have gd : decide (Y.f2.f0 < 2147483648) = false := decide_eq_false gr
            clear gr
            go_wp2_with (first | (go_at_call 17; with_reducible refine (M1.out _ HW.out).mono ?_; rintro e_ w_ ⟨rfl, hb⟩; have n0 := Aside0.mk (below_then HW.out HW.out.size hb); have n1 := Aside0.mk (BX.out.below hb); have n2 := Aside0.mk (BY.out.below hb); have n3 := Aside0.mk (BZ.out.below hb); have n4 := Aside0.mk (BG.out.below hb); clear HW BX BY BZ BG hb; clear g0 g1 g2 g3 g4 g5 g6 g7 gf; clear x0 x1 x2 x3 x4 x5 x6 x7 y0 y1 y2 y3 y4 y5 y6 y7 z0 z1 z2 z3 z4 z5 z6 z7; have HW := n0; have BX := n1; have BY := n2; have BZ := n3; have BG := n4; clear n0 n1 n2 n3 n4; obtain ⟨x0, x1, x2, x3, x4, x5, x6, x7, xf⟩ := BX.out.c; obtain ⟨y0, y1, y2, y3, y4, y5, y6, y7, yf⟩ := BY.out.c; obtain ⟨z0, z1, z2, z3, z4, z5, z6, z7, zf⟩ := BZ.out.c; clear xf yf zf; obtain ⟨g0, g1, g2, g3, g4, g5, g6, g7, gf⟩ := BG.out.c) | fail)
            go_ret
            exact ⟨rfl, HW.out⟩
        | true =>
          have M := MXY.out
          rw [e1] at M
          have M1 := Aside0.mk M
          clear M
          cases e2 : Link.mt Y Z with
          | false =>
            have M := MYZ.out
            rw [e2] at M
            have M2 := Aside0.mk M
            clear M
            go_upto_region 10 with (first | (go_at_call 17; with_reducible refine (M1.out _ HW.out).mono ?_; rintro e_ w_ ⟨rfl, hb⟩; have n0 := Aside0.mk (below_then HW.out HW.out.size hb); have n1 := Aside0.mk (BX.out.below hb); have n2 := Aside0.mk (BY.out.below hb); have n3 := Aside0.mk (BZ.out.below hb); clear HW BX BY BZ hb; clear x0 x1 x2 x3 x4 x5 x6 x7 y0 y1 y2 y3 y4 y5 y6 y7 z0 z1 z2 z3 z4 z5 z6 z7; have HW := n0; have BX := n1; have BY := n2; have BZ := n3; clear n0 n1 n2 n3; obtain ⟨x0, x1, x2, x3, x4, x5, x6, x7, xf⟩ := BX.out.c; obtain ⟨y0, y1, y2, y3, y4, y5, y6, y7, yf⟩ := BY.out.c; obtain ⟨z0, z1, z2, z3, z4, z5, z6, z7, zf⟩ := BZ.out.c; clear xf yf zf) | (go_at_call 17; with_reducible refine (M2.out _ HW.out).mono ?_; rintro e_ w_ ⟨rfl, hb⟩; have n0 := Aside0.mk (below_then HW.out HW.out.size hb); have n1 := Aside0.mk (BX.out.below hb); have n2 := Aside0.mk (BY.out.below hb); have n3 := Aside0.mk (BZ.out.below hb); clear HW BX BY BZ hb; clear x0 x1 x2 x3 x4 x5 x6 x7 y0 y1 y2 y3 y4 y5 y6 y7 z0 z1 z2 z3 z4 z5 z6 z7; have HW := n0; have BX := n1; have BY := n2; have BZ := n3; clear n0 n1 n2 n3; obtain ⟨x0, x1, x2, x3, x4, x5, x6, x7, xf⟩ := BX.out.c; obtain ⟨y0, y1, y2, y3, y4, y5, y6, y7, yf⟩ := BY.out.c; obtain ⟨z0, z1, z2, z3, z4, z5, z6, z7, zf⟩ := BZ.out.c; clear xf yf zf) | fail)
            have G := grow9 rfl HW.out BX.out BY.out BZ.out
            generalize (w_.alloc (.cells #[.int .i64 Y.f0, .slice B0 Y.f1.f0.length b0, .slice B1 Y.f1.f1.length b1, .int .u32 Y.f2.f0, .int .u32 Y.f2.f1, .bool Y.f2.f2, .int .u8 Y.f3.f0, .bool Y.f3.f1] 41)) = w9 at G ⊢
            generalize w_.heap.size = qg at G ⊢
            obtain ⟨g1, g2, g3, g4, g5, g6⟩ := G
            clear HW BX BY BZ
            clear x0 x1 x2 x3 x4 x5 x6 x7 y0 y1 y2 y3 y4 y5 y6 y7 z0 z1 z2 z3 z4 z5 z6 z7
            have BX := Aside0.mk g1
            have BY := Aside0.mk g2
            have BZ := Aside0.mk g3
            have BG := Aside0.mk g4
            have HW := Aside0.mk g5
            have HQ := Aside0.mk g6
            clear g1 g2 g3 g4 g5 g6
            obtain ⟨x0, x1, x2, x3, x4, x5, x6, x7, xf⟩ := BX.out.c; obtain ⟨y0, y1, y2, y3, y4, y5, y6, y7, yf⟩ := BY.out.c; obtain ⟨z0, z1, z2, z3, z4, z5, z6, z7, zf⟩ := BZ.out.c; clear xf yf zf
            obtain ⟨g0, g1, g2, g3, g4, g5, g6, g7, gf⟩ := BG.out.c
            by_cases gr : Y.f2.f0 < 2147483648
            · have gd : decide (Y.f2.f0 < 2147483648) = true := decide_eq_true gr
              have dG : Link.mt X Y = true → Link.mt X ⟨Y.f0, Y.f1, ⟨Y.f2.f0 + Z.f2.f0 % 5, Y.f2.f1, Y.f2.f2⟩, Y.f3⟩ = true := fun h => by
                have := mt_grown X Y Z NZ.out.1 h
                unfold grown at this
                rwa [if_pos gr] at this
              have MG := MXG.out (Y.f2.f0 + Z.f2.f0 % 5)
              rw [dG e1] at MG
              have MGG := Aside0.mk MG
              clear MG dG
              obtain ⟨ny0, ny1⟩ := NY.out
              obtain ⟨nz0, nz1⟩ := NZ.out
              go_upto_region 12 with (fail)
              have G := grow12 rfl HW.out BX.out BY.out BZ.out BG.out HQ.out (Y.f2.f0 + Z.f2.f0 % 5)
              generalize (w9.setCell ⟨qg, 3, none⟩ (.int .u32 (Y.f2.f0 + Z.f2.f0 % 5))) = w12 at G ⊢
              clear g0 g1 g2 g3 g4 g5 g6 g7 gf
              obtain ⟨g1, g2, g3, g4, g5⟩ := G
              clear HW BX BY BZ BG
              clear x0 x1 x2 x3 x4 x5 x6 x7 y0 y1 y2 y3 y4 y5 y6 y7 z0 z1 z2 z3 z4 z5 z6 z7
              have BX := Aside0.mk g1
              have BY := Aside0.mk g2
              have BZ := Aside0.mk g3
              have BG := Aside0.mk g4
              have HW := Aside0.mk g5
              clear g1 g2 g3 g4 g5
              obtain ⟨x0, x1, x2, x3, x4, x5, x6, x7, xf⟩ := BX.out.c; obtain ⟨y0, y1, y2, y3, y4, y5, y6, y7, yf⟩ := BY.out.c; obtain ⟨z0, z1, z2, z3, z4, z5, z6, z7, zf⟩ := BZ.out.c; clear xf yf zf
              obtain ⟨g0, g1, g2, g3, g4, g5, g6, g7, gf⟩ := BG.out.c
              go_wp2_with (first | (go_at_call 17; with_reducible refine (M1.out _ HW.out).mono ?_; rintro e_ w_ ⟨rfl, hb⟩; have n0 := Aside0.mk (below_then HW.out HW.out.size hb); have n1 := Aside0.mk (BX.out.below hb); have n2 := Aside0.mk (BY.out.below hb); have n3 := Aside0.mk (BZ.out.below hb); have n4 := Aside0.mk (BG.out.below hb); clear HW BX BY BZ BG hb; clear g0 g1 g2 g3 g4 g5 g6 g7 gf; clear x0 x1 x2 x3 x4 x5 x6 x7 y0 y1 y2 y3 y4 y5 y6 y7 z0 z1 z2 z3 z4 z5 z6 z7; have HW := n0; have BX := n1; have BY := n2; have BZ := n3; have BG := n4; clear n0 n1 n2 n3 n4; obtain ⟨x0, x1, x2, x3, x4, x5, x6, x7, xf⟩ := BX.out.c; obtain ⟨y0, y1, y2, y3, y4, y5, y6, y7, yf⟩ := BY.out.c; obtain ⟨z0, z1, z2, z3, z4, z5, z6, z7, zf⟩ := BZ.out.c; clear xf yf zf; obtain ⟨g0, g1, g2, g3, g4, g5, g6, g7, gf⟩ := BG.out.c) | (go_at_call 17; with_reducible refine (MGG.out _ HW.out).mono ?_; rintro e_ w_ ⟨rfl, hb⟩; have n0 := Aside0.mk (below_then HW.out HW.out.size hb); have n1 := Aside0.mk (BX.out.below hb); have n2 := Aside0.mk (BY.out.below hb); have n3 := Aside0.mk (BZ.out.below hb); have n4 := Aside0.mk (BG.out.below hb); clear HW BX BY BZ BG hb; clear g0 g1 g2 g3 g4 g5 g6 g7 gf; clear x0 x1 x2 x3 x4 x5 x6 x7 y0 y1 y2 y3 y4 y5 y6 y7 z0 z1 z2 z3 z4 z5 z6 z7; have HW := n0; have BX := n1; have BY := n2; have BZ := n3; have BG := n4; clear n0 n1 n2 n3 n4; obtain ⟨x0, x1, x2, x3, x4, x5, x6, x7, xf⟩ := BX.out.c; obtain ⟨y0, y1, y2, y3, y4, y5, y6, y7, yf⟩ := BY.out.c; obtain ⟨z0, z1, z2, z3, z4, z5, z6, z7, zf⟩ := BZ.out.c; clear xf yf zf; obtain ⟨g0, g1, g2, g3, g4, g5, g6, g7, gf⟩ := BG.out.c) | fail)
              go_ret
              exact ⟨rfl, HW.out⟩
            · have gd : decide (Y.f2.f0 < 2147483648) = false := decide_eq_false gr
              clear gr
              go_wp2_with (first | (go_at_call 17; with_reducible refine (M1.out _ HW.out).mono ?_; rintro e_ w_ ⟨rfl, hb⟩; have n0 := Aside0.mk (below_then HW.out HW.out.size hb); have n1 := Aside0.mk (BX.out.below hb); have n2 := Aside0.mk (BY.out.below hb); have n3 := Aside0.mk (BZ.out.below hb); have n4 := Aside0.mk (BG.out.below hb); clear HW BX BY BZ BG hb; clear g0 g1 g2 g3 g4 g5 g6 g7 gf; clear x0 x1 x2 x3 x4 x5 x6 x7 y0 y1 y2 y3 y4 y5 y6 y7 z0 z1 z2 z3 z4 z5 z6 z7; have HW := n0; have BX := n1; have BY := n2; have BZ := n3; have BG := n4; clear n0 n1 n2 n3 n4; obtain ⟨x0, x1, x2, x3, x4, x5, x6, x7, xf⟩ := BX.out.c; obtain ⟨y0, y1, y2, y3, y4, y5, y6, y7, yf⟩ := BY.out.c; obtain ⟨z0, z1, z2, z3, z4, z5, z6, z7, zf⟩ := BZ.out.c; clear xf yf zf; obtain ⟨g0, g1, g2, g3, g4, g5, g6, g7, gf⟩ := BG.out.c) | fail)
              go_ret
              exact ⟨rfl, HW.out⟩
          | true =>
            have M := MYZ.out
            rw [e2] at M
            have M2 := Aside0.mk M
            clear M
            have M := MXZ.out
            rw [DXZ.out e1 e2] at M
            have M3 := Aside0.mk M
            clear M
            go_upto_region 10 with (first | (go_at_call 17; with_reducible refine (M1.out _ HW.out).mono ?_; rintro e_ w_ ⟨rfl, hb⟩; have n0 := Aside0.mk (below_then HW.out HW.out.size hb); have n1 := Aside0.mk (BX.out.below hb); have n2 := Aside0.mk (BY.out.below hb); have n3 := Aside0.mk (BZ.out.below hb); clear HW BX BY BZ hb; clear x0 x1 x2 x3 x4 x5 x6 x7 y0 y1 y2 y3 y4 y5 y6 y7 z0 z1 z2 z3 z4 z5 z6 z7; have HW := n0; have BX := n1; have BY := n2; have BZ := n3; clear n0 n1 n2 n3; obtain ⟨x0, x1, x2, x3, x4, x5, x6, x7, xf⟩ := BX.out.c; obtain ⟨y0, y1, y2, y3, y4, y5, y6, y7, yf⟩ := BY.out.c; obtain ⟨z0, z1, z2, z3, z4, z5, z6, z7, zf⟩ := BZ.out.c; clear xf yf zf) | (go_at_call 17; with_reducible refine (M2.out _ HW.out).mono ?_; rintro e_ w_ ⟨rfl, hb⟩; have n0 := Aside0.mk (below_then HW.out HW.out.size hb); have n1 := Aside0.mk (BX.out.below hb); have n2 := Aside0.mk (BY.out.below hb); have n3 := Aside0.mk (BZ.out.below hb); clear HW BX BY BZ hb; clear x0 x1 x2 x3 x4 x5 x6 x7 y0 y1 y2 y3 y4 y5 y6 y7 z0 z1 z2 z3 z4 z5 z6 z7; have HW := n0; have BX := n1; have BY := n2; have BZ := n3; clear n0 n1 n2 n3; obtain ⟨x0, x1, x2, x3, x4, x5, x6, x7, xf⟩ := BX.out.c; obtain ⟨y0, y1, y2, y3, y4, y5, y6, y7, yf⟩ := BY.out.c; obtain ⟨z0, z1, z2, z3, z4, z5, z6, z7, zf⟩ := BZ.out.c; clear xf yf zf) | (go_at_call 17; with_reducible refine (M3.out _ HW.out).mono ?_; rintro e_ w_ ⟨rfl, hb⟩; have n0 := Aside0.mk (below_then HW.out HW.out.size hb); have n1 := Aside0.mk (BX.out.below hb); have n2 := Aside0.mk (BY.out.below hb); have n3 := Aside0.mk (BZ.out.below hb); clear HW BX BY BZ hb; clear x0 x1 x2 x3 x4 x5 x6 x7 y0 y1 y2 y3 y4 y5 y6 y7 z0 z1 z2 z3 z4 z5 z6 z7; have HW := n0; have BX := n1; have BY := n2; have BZ := n3; clear n0 n1 n2 n3; obtain ⟨x0, x1, x2, x3, x4, x5, x6, x7, xf⟩ := BX.out.c; obtain ⟨y0, y1, y2, y3, y4, y5, y6, y7, yf⟩ := BY.out.c; obtain ⟨z0, z1, z2, z3, z4, z5, z6, z7, zf⟩ := BZ.out.c; clear xf yf zf) | fail)
            have G := grow9 rfl HW.out BX.out BY.out BZ.out
            generalize (w_.alloc (.cells #[.int .i64 Y.f0, .slice B0 Y.f1.f0.length b0, .slice B1 Y.f1.f1.length b1, .int .u32 Y.f2.f0, .int .u32 Y.f2.f1, .bool Y.f2.f2, .int .u8 Y.f3.f0, .bool Y.f3.f1] 41)) = w9 at G ⊢
            generalize w_.heap.size = qg at G ⊢
            obtain ⟨g1, g2, g3, g4, g5, g6⟩ := G
            clear HW BX BY BZ
            clear x0 x1 x2 x3 x4 x5 x6 x7 y0 y1 y2 y3 y4 y5 y6 y7 z0 z1 z2 z3 z4 z5 z6 z7
            have BX := Aside0.mk g1
            have BY := Aside0.mk g2
            have BZ := Aside0.mk g3
            have BG := Aside0.mk g4
            have HW := Aside0.mk g5
            have HQ := Aside0.mk g6
            clear g1 g2 g3 g4 g5 g6
            obtain ⟨x0, x1, x2, x3, x4, x5, x6, x7, xf⟩ := BX.out.c; obtain ⟨y0, y1, y2, y3, y4, y5, y6, y7, yf⟩ := BY.out.c; obtain ⟨z0, z1, z2, z3, z4, z5, z6, z7, zf⟩ := BZ.out.c; clear xf yf zf
            obtain ⟨g0, g1, g2, g3, g4, g5, g6, g7, gf⟩ := BG.out.c
            by_cases gr : Y.f2.f0 < 2147483648
            · have gd : decide (Y.f2.f0 < 2147483648) = true := decide_eq_true gr
              have dG : Link.mt X Y = true → Link.mt X ⟨Y.f0, Y.f1, ⟨Y.f2.f0 + Z.f2.f0 % 5, Y.f2.f1, Y.f2.f2⟩, Y.f3⟩ = true := fun h => by
                have := mt_grown X Y Z NZ.out.1 h
                unfold grown at this
                rwa [if_pos gr] at this
              have MG := MXG.out (Y.f2.f0 + Z.f2.f0 % 5)
              rw [dG e1] at MG
              have MGG := Aside0.mk MG
              clear MG dG
              obtain ⟨ny0, ny1⟩ := NY.out
              obtain ⟨nz0, nz1⟩ := NZ.out
              go_upto_region 12 with (fail)
              have G := grow12 rfl HW.out BX.out BY.out BZ.out BG.out HQ.out (Y.f2.f0 + Z.f2.f0 % 5)
              generalize (w9.setCell ⟨qg, 3, none⟩ (.int .u32 (Y.f2.f0 + Z.f2.f0 % 5))) = w12 at G ⊢
              clear g0 g1 g2 g3 g4 g5 g6 g7 gf
              obtain ⟨g1, g2, g3, g4, g5⟩ := G
              clear HW BX BY BZ BG
              clear x0 x1 x2 x3 x4 x5 x6 x7 y0 y1 y2 y3 y4 y5 y6 y7 z0 z1 z2 z3 z4 z5 z6 z7
              have BX := Aside0.mk g1
              have BY := Aside0.mk g2
              have BZ := Aside0.mk g3
              have BG := Aside0.mk g4
              have HW := Aside0.mk g5
              clear g1 g2 g3 g4 g5
              obtain ⟨x0, x1, x2, x3, x4, x5, x6, x7, xf⟩ := BX.out.c; obtain ⟨y0, y1, y2, y3, y4, y5, y6, y7, yf⟩ := BY.out.c; obtain ⟨z0, z1, z2, z3, z4, z5, z6, z7, zf⟩ := BZ.out.c; clear xf yf zf
              obtain ⟨g0, g1, g2, g3, g4, g5, g6, g7, gf⟩ := BG.out.c
              go_wp2_with (first | (go_at_call 17; with_reducible refine (M1.out _ HW.out).mono ?_; rintro e_ w_ ⟨rfl, hb⟩; have n0 := Aside0.mk (below_then HW.out HW.out.size hb); have n1 := Aside0.mk (BX.out.below hb); have n2 := Aside0.mk (BY.out.below hb); have n3 := Aside0.mk (BZ.out.below hb); have n4 := Aside0.mk (BG.out.below hb); clear HW BX BY BZ BG hb; clear g0 g1 g2 g3 g4 g5 g6 g7 gf; clear x0 x1 x2 x3 x4 x5 x6 x7 y0 y1 y2 y3 y4 y5 y6 y7 z0 z1 z2 z3 z4 z5 z6 z7; have HW := n0; have BX := n1; have BY := n2; have BZ := n3; have BG := n4; clear n0 n1 n2 n3 n4; obtain ⟨x0, x1, x2, x3, x4, x5, x6, x7, xf⟩ := BX.out.c; obtain ⟨y0, y1, y2, y3, y4, y5, y6, y7, yf⟩ := BY.out.c; obtain ⟨z0, z1, z2, z3, z4, z5, z6, z7, zf⟩ := BZ.out.c; clear xf yf zf; obtain ⟨g0, g1, g2, g3, g4, g5, g6, g7, gf⟩ := BG.out.c) | (go_at_call 17; with_reducible refine (MGG.out _ HW.out).mono ?_; rintro e_ w_ ⟨rfl, hb⟩; have n0 := Aside0.mk (below_then HW.out HW.out.size hb); have n1 := Aside0.mk (BX.out.below hb); have n2 := Aside0.mk (BY.out.below hb); have n3 := Aside0.mk (BZ.out.below hb); have n4 := Aside0.mk (BG.out.below hb); clear HW BX BY BZ BG hb; clear g0 g1 g2 g3 g4 g5 g6 g7 gf; clear x0 x1 x2 x3 x4 x5 x6 x7 y0 y1 y2 y3 y4 y5 y6 y7 z0 z1 z2 z3 z4 z5 z6 z7; have HW := n0; have BX := n1; have BY := n2; have BZ := n3; have BG := n4; clear n0 n1 n2 n3 n4; obtain ⟨x0, x1, x2, x3, x4, x5, x6, x7, xf⟩ := BX.out.c; obtain ⟨y0, y1, y2, y3, y4, y5, y6, y7, yf⟩ := BY.out.c; obtain ⟨z0, z1, z2, z3, z4, z5, z6, z7, zf⟩ := BZ.out.c; clear xf yf zf; obtain ⟨g0, g1, g2, g3, g4, g5, g6, g7, gf⟩ := BG.out.c) | fail)
              go_ret
              exact ⟨rfl, HW.out⟩
            · have gd : decide (Y.f2.f0 < 2147483648) = false := decide_eq_false gr
              clear gr
              go_wp2_with (first | (go_at_call 17; with_reducible refine (M1.out _ HW.out).mono ?_; rintro e_ w_ ⟨rfl, hb⟩; have n0 := Aside0.mk (below_then HW.out HW.out.size hb); have n1 := Aside0.mk (BX.out.below hb); have n2 := Aside0.mk (BY.out.below hb); have n3 := Aside0.mk (BZ.out.below hb); have n4 := Aside0.mk (BG.out.below hb); clear HW BX BY BZ BG hb; clear g0 g1 g2 g3 g4 g5 g6 g7 gf; clear x0 x1 x2 x3 x4 x5 x6 x7 y0 y1 y2 y3 y4 y5 y6 y7 z0 z1 z2 z3 z4 z5 z6 z7; have HW := n0; have BX := n1; have BY := n2; have BZ := n3; have BG := n4; clear n0 n1 n2 n3 n4; obtain ⟨x0, x1, x2, x3, x4, x5, x6, x7, xf⟩ := BX.out.c; obtain ⟨y0, y1, y2, y3, y4, y5, y6, y7, yf⟩ := BY.out.c; obtain ⟨z0, z1, z2, z3, z4, z5, z6, z7, zf⟩ := BZ.out.c; clear xf yf zf; obtain ⟨g0, g1, g2, g3, g4, g5, g6, g7, gf⟩ := BG.out.c) | fail)
              go_ret
              exact ⟨rfl, HW.out⟩
    · have t0 : decide (0 ≤ X.f0) = false := decide_eq_false q0
      clear q0
      go_upto_region 7 with (fail)
      clear DXX t0
      cases e1 : Link.mt X Y with
      | false =>
        have M := MXY.out
        rw [e1] at M
        have M1 := Aside0.mk M
        clear M
        go_upto_region 10 with (first | (go_at_call 17; with_reducible refine (M1.out _ HW.out).mono ?_; rintro e_ w_ ⟨rfl, hb⟩; have n0 := Aside0.mk (below_then HW.out HW.out.size hb); have n1 := Aside0.mk (BX.out.below hb); have n2 := Aside0.mk (BY.out.below hb); have n3 := Aside0.mk (BZ.out.below hb); clear HW BX BY BZ hb; clear x0 x1 x2 x3 x4 x5 x6 x7 y0 y1 y2 y3 y4 y5 y6 y7 z0 z1 z2 z3 z4 z5 z6 z7; have HW := n0; have BX := n1; have BY := n2; have BZ := n3; clear n0 n1 n2 n3; obtain ⟨x0, x1, x2, x3, x4, x5, x6, x7, xf⟩ := BX.out.c; obtain ⟨y0, y1, y2, y3, y4, y5, y6, y7, yf⟩ := BY.out.c; obtain ⟨z0, z1, z2, z3, z4, z5, z6, z7, zf⟩ := BZ.out.c; clear xf yf zf) | fail)
        have G := grow9 rfl HW.out BX.out BY.out BZ.out
        generalize (w_.alloc (.cells #[.int .i64 Y.f0, .slice B0 Y.f1.f0.length b0, .slice B1 Y.f1.f1.length b1, .int .u32 Y.f2.f0, .int .u32 Y.f2.f1, .bool Y.f2.f2, .int .u8 Y.f3.f0, .bool Y.f3.f1] 41)) = w9 at G ⊢
        generalize w_.heap.size = qg at G ⊢
        obtain ⟨g1, g2, g3, g4, g5, g6⟩ := G
        clear HW BX BY BZ
        clear x0 x1 x2 x3 x4 x5 x6 x7 y0 y1 y2 y3 y4 y5 y6 y7 z0 z1 z2 z3 z4 z5 z6 z7
        have BX := Aside0.mk g1
        have BY := Aside0.mk g2
        have BZ := Aside0.mk g3
        have BG := Aside0.mk g4
        have HW := Aside0.mk g5
        have HQ := Aside0.mk g6
        clear g1 g2 g3 g4 g5 g6
        obtain ⟨x0, x1, x2, x3, x4, x5, x6, x7, xf⟩ := BX.out.c; obtain ⟨y0, y1, y2, y3, y4, y5, y6, y7, yf⟩ := BY.out.c; obtain ⟨z0, z1, z2, z3, z4, z5, z6, z7, zf⟩ := BZ.out.c; clear xf yf zf
        obtain ⟨g0, g1, g2, g3, g4, g5, g6, g7, gf⟩ := BG.out.c
        by_cases gr : Y.f2.f0 < 2147483648
        · have gd : decide (Y.f2.f0 < 2147483648) = true := decide_eq_true gr
          have dG : Link.mt X Y = true → Link.mt X ⟨Y.f0, Y.f1, ⟨Y.f2.f0 + Z.f2.f0 % 5, Y.f2.f1, Y.f2.f2⟩, Y.f3⟩ = true := fun h => by
            have := mt_grown X Y Z NZ.out.1 h
            unfold grown at this
            rwa [if_pos gr] at this
          have MG := MXG.out (Y.f2.f0 + Z.f2.f0 % 5)
          have MGG := Aside0.mk MG
          clear MG dG
          obtain ⟨ny0, ny1⟩ := NY.out
          obtain ⟨nz0, nz1⟩ := NZ.out
          go_upto_region 12 with (fail)
          have G := grow12 rfl HW.out BX.out BY.out BZ.out BG.out HQ.out (Y.f2.f0 + Z.f2.f0 % 5)
          generalize (w9.setCell ⟨qg, 3, none⟩ (.int .u32 (Y.f2.f0 + Z.f2.f0 % 5))) = w12 at G ⊢
          clear g0 g1 g2 g3 g4 g5 g6 g7 gf
          obtain ⟨g1, g2, g3, g4, g5⟩ := G
          clear HW BX BY BZ BG
          clear x0 x1 x2 x3 x4 x5 x6 x7 y0 y1 y2 y3 y4 y5 y6 y7 z0 z1 z2 z3 z4 z5 z6 z7
          have BX := Aside0.mk g1
          have BY := Aside0.mk g2
          have BZ := Aside0.mk g3
          have BG := Aside0.mk g4
          have HW := Aside0.mk g5
          clear g1 g2 g3 g4 g5
          obtain ⟨x0, x1, x2, x3, x4, x5, x6, x7, xf⟩ := BX.out.c; obtain ⟨y0, y1, y2, y3, y4, y5, y6, y7, yf⟩ := BY.out.c; obtain ⟨z0, z1, z2, z3, z4, z5, z6, z7, zf⟩ := BZ.out.c; clear xf yf zf
          obtain ⟨g0, g1, g2, g3, g4, g5, g6, g7, gf⟩ := BG.out.c
          go_wp2_with (first | (go_at_call 17; with_reducible refine (M1.out _ HW.out).mono ?_; rintro e_ w_ ⟨rfl, hb⟩; have n0 := Aside0.mk (below_then HW.out HW.out.size hb); have n1 := Aside0.mk (BX.out.below hb); have n2 := Aside0.mk (BY.out.below hb); have n3 := Aside0.mk (BZ.out.below hb); have n4 := Aside0.mk (BG.out.below hb); clear HW BX BY BZ BG hb; clear g0 g1 g2 g3 g4 g5 g6 g7 gf; clear x0 x1 x2 x3 x4 x5 x6 x7 y0 y1 y2 y3 y4 y5 y6 y7 z0 z1 z2 z3 z4 z5 z6 z7; have HW := n0; have BX := n1; have BY := n2; have BZ := n3; have BG := n4; clear n0 n1 n2 n3 n4; obtain ⟨x0, x1, x2, x3, x4, x5, x6, x7, xf⟩ := BX.out.c; obtain ⟨y0, y1, y2, y3, y4, y5, y6, y7, yf⟩ := BY.out.c; obtain ⟨z0, z1, z2, z3, z4, z5, z6, z7, zf⟩ := BZ.out.c; clear xf yf zf; obtain ⟨g0, g1, g2, g3, g4, g5, g6, g7, gf⟩ := BG.out.c) | (go_at_call 17; with_reducible refine (MGG.out _ HW.out).mono ?_; rintro e_ w_ ⟨rfl, hb⟩; have n0 := Aside0.mk (below_then HW.out HW.out.size hb); have n1 := Aside0.mk (BX.out.below hb); have n2 := Aside0.mk (BY.out.below hb); have n3 := Aside0.mk (BZ.out.below hb); have n4 := Aside0.mk (BG.out.below hb); clear HW BX BY BZ BG hb; clear g0 g1 g2 g3 g4 g5 g6 g7 gf; clear x0 x1 x2 x3 x4 x5 x6 x7 y0 y1 y2 y3 y4 y5 y6 y7 z0 z1 z2 z3 z4 z5 z6 z7; have HW := n0; have BX := n1; have BY := n2; have BZ := n3; have BG := n4; clear n0 n1 n2 n3 n4; obtain ⟨x0, x1, x2, x3, x4, x5, x6, x7, xf⟩ := BX.out.c; obtain ⟨y0, y1, y2, y3, y4, y5, y6, y7, yf⟩ := BY.out.c; obtain ⟨z0, z1, z2, z3, z4, z5, z6, z7, zf⟩ := BZ.out.c; clear xf yf zf; obtain ⟨g0, g1, g2, g3, g4, g5, g6, g7, gf⟩ := BG.out.c) | fail)
          go_ret
          exact ⟨rfl, HW.out⟩
        · have gd : decide (Y.f2.f0 < 2147483648) = false := decide_eq_false gr
          clear gr
          go_wp2_with (first | (go_at_call 17; with_reducible refine (M1.out _ HW.out).mono ?_; rintro e_ w_ ⟨rfl, hb⟩; have n0 := Aside0.mk (below_then HW.out HW.out.size hb); have n1 := Aside0.mk (BX.out.below hb); have n2 := Aside0.mk (BY.out.below hb); have n3 := Aside0.mk (BZ.out.below hb); have n4 := Aside0.mk (BG.out.below hb); clear HW BX BY BZ BG hb; clear g0 g1 g2 g3 g4 g5 g6 g7 gf; clear x0 x1 x2 x3 x4 x5 x6 x7 y0 y1 y2 y3 y4 y5 y6 y7 z0 z1 z2 z3 z4 z5 z6 z7; have HW := n0; have BX := n1; have BY := n2; have BZ := n3; have BG := n4; clear n0 n1 n2 n3 n4; obtain ⟨x0, x1, x2, x3, x4, x5, x6, x7, xf⟩ := BX.out.c; obtain ⟨y0, y1, y2, y3, y4, y5, y6, y7, yf⟩ := BY.out.c; obtain ⟨z0, z1, z2, z3, z4, z5, z6, z7, zf⟩ := BZ.out.c; clear xf yf zf; obtain ⟨g0, g1, g2, g3, g4, g5, g6, g7, gf⟩ := BG.out.c) | fail)
          go_ret
          exact ⟨rfl, HW.out⟩
      | true =>
        have M := MXY.out
        rw [e1] at M
        have M1 := Aside0.mk M
        clear M
        cases e2 : Link.mt Y Z with
        | false =>
          have M := MYZ.out
          rw [e2] at M
          have M2 := Aside0.mk M
          clear M
          go_upto_region 10 with (first | (go_at_call 17; with_reducible refine (M1.out _ HW.out).mono ?_; rintro e_ w_ ⟨rfl, hb⟩; have n0 := Aside0.mk (below_then HW.out HW.out.size hb); have n1 := Aside0.mk (BX.out.below hb); have n2 := Aside0.mk (BY.out.below hb); have n3 := Aside0.mk (BZ.out.below hb); clear HW BX BY BZ hb; clear x0 x1 x2 x3 x4 x5 x6 x7 y0 y1 y2 y3 y4 y5 y6 y7 z0 z1 z2 z3 z4 z5 z6 z7; have HW := n0; have BX := n1; have BY := n2; have BZ := n3; clear n0 n1 n2 n3; obtain ⟨x0, x1, x2, x3, x4, x5, x6, x7, xf⟩ := BX.out.c; obtain ⟨y0, y1, y2, y3, y4, y5, y6, y7, yf⟩ := BY.out.c; obtain ⟨z0, z1, z2, z3, z4, z5, z6, z7, zf⟩ := BZ.out.c; clear xf yf zf) | (go_at_call 17; with_reducible refine (M2.out _ HW.out).mono ?_; rintro e_ w_ ⟨rfl, hb⟩; have n0 := Aside0.mk (below_then HW.out HW.out.size hb); have n1 := Aside0.mk (BX.out.below hb); have n2 := Aside0.mk (BY.out.below hb); have n3 := Aside0.mk (BZ.out.below hb); clear HW BX BY BZ hb; clear x0 x1 x2 x3 x4 x5 x6 x7 y0 y1 y2 y3 y4 y5 y6 y7 z0 z1 z2 z3 z4 z5 z6 z7; have HW := n0; have BX := n1; have BY := n2; have BZ := n3; clear n0 n1 n2 n3; obtain ⟨x0, x1, x2, x3, x4, x5, x6, x7, xf⟩ := BX.out.c; obtain ⟨y0, y1, y2, y3, y4, y5, y6, y7, yf⟩ := BY.out.c; obtain ⟨z0, z1, z2, z3, z4, z5, z6, z7, zf⟩ := BZ.out.c; clear xf yf zf) | fail)
          have G := grow9 rfl HW.out BX.out BY.out BZ.out
          generalize (w_.alloc (.cells #[.int .i64 Y.f0, .slice B0 Y.f1.f0.length b0, .slice B1 Y.f1.f1.length b1, .int .u32 Y.f2.f0, .int .u32 Y.f2.f1, .bool Y.f2.f2, .int .u8 Y.f3.f0, .bool Y.f3.f1] 41)) = w9 at G ⊢
          generalize w_.heap.size = qg at G ⊢
          obtain ⟨g1, g2, g3, g4, g5, g6⟩ := G
          clear HW BX BY BZ
          clear x0 x1 x2 x3 x4 x5 x6 x7 y0 y1 y2 y3 y4 y5 y6 y7 z0 z1 z2 z3 z4 z5 z6 z7
          have BX := Aside0.mk g1
          have BY := Aside0.mk g2
          have BZ := Aside0.mk g3
          have BG := Aside0.mk g4
          have HW := Aside0.mk g5
          have HQ := Aside0.mk g6
          clear g1 g2 g3 g4 g5 g6
          obtain ⟨x0, x1, x2, x3, x4, x5, x6, x7, xf⟩ := BX.out.c; obtain ⟨y0, y1, y2, y3, y4, y5, y6, y7, yf⟩ := BY.out.c; obtain ⟨z0, z1, z2, z3, z4, z5, z6, z7, zf⟩ := BZ.out.c; clear xf yf zf
          obtain ⟨g0, g1, g2, g3, g4, g5, g6, g7, gf⟩ := BG.out.c
          by_cases gr : Y.f2.f0 < 2147483648
          · have gd : decide (Y.f2.f0 < 2147483648) = true := decide_eq_true gr
            have dG : Link.mt X Y = true → Link.mt X ⟨Y.f0, Y.f1, ⟨Y.f2.f0 + Z.f2.f0 % 5, Y.f2.f1, Y.f2.f2⟩, Y.f3⟩ = true := fun h => by
              have := mt_grown X Y Z NZ.out.1 h
              unfold grown at this
              rwa [if_pos gr] at this
            have MG := MXG.out (Y.f2.f0 + Z.f2.f0 % 5)
            rw [dG e1] at MG
            have MGG := Aside0.mk MG
            clear MG dG
            obtain ⟨ny0, ny1⟩ := NY.out
            obtain ⟨nz0, nz1⟩ := NZ.out
            go_upto_region 12 with (fail)
            have G := grow12 rfl HW.out BX.out BY.out BZ.out BG.out HQ.out (Y.f2.f0 + Z.f2.f0 % 5)
            generalize (w9.setCell ⟨qg, 3, none⟩ (.int .u32 (Y.f2.f0 + Z.f2.f0 % 5))) = w12 at G ⊢
            clear g0 g1 g2 g3 g4 g5 g6 g7 gf
            obtain ⟨g1, g2, g3, g4, g5⟩ := G
            clear HW BX BY BZ BG
            clear x0 x1 x2 x3 x4 x5 x6 x7 y0 y1 y2 y3 y4 y5 y6 y7 z0 z1 z2 z3 z4 z5 z6 z7
            have BX := Aside0.mk g1
            have BY := Aside0.mk g2
            have BZ := Aside0.mk g3
            have BG := Aside0.mk g4
            have HW := Aside0.mk g5
            clear g1 g2 g3 g4 g5
            obtain ⟨x0, x1, x2, x3, x4, x5, x6, x7, xf⟩ := BX.out.c; obtain ⟨y0, y1, y2, y3, y4, y5, y6, y7, yf⟩ := BY.out.c; obtain ⟨z0, z1, z2, z3, z4, z5, z6, z7, zf⟩ := BZ.out.c; clear xf yf zf
            obtain ⟨g0, g1, g2, g3, g4, g5, g6, g7, gf⟩ := BG.out.c
            go_wp2_with (first | (go_at_call 17; with_reducible refine (M1.out _ HW.out).mono ?_; rintro e_ w_ ⟨rfl, hb⟩; have n0 := Aside0.mk (below_then HW.out HW.out.size hb); have n1 := Aside0.mk (BX.out.below hb); have n2 := Aside0.mk (BY.out.below hb); have n3 := Aside0.mk (BZ.out.below hb); have n4 := Aside0.mk (BG.out.below hb); clear HW BX BY BZ BG hb; clear g0 g1 g2 g3 g4 g5 g6 g7 gf; clear x0 x1 x2 x3 x4 x5 x6 x7 y0 y1 y2 y3 y4 y5 y6 y7 z0 z1 z2 z3 z4 z5 z6 z7; have HW := n0; have BX := n1; have BY := n2; have BZ := n3; have BG := n4; clear n0 n1 n2 n3 n4; obtain ⟨x0, x1, x2, x3, x4, x5, x6, x7, xf⟩ := BX.out.c; obtain ⟨y0, y1, y2, y3, y4, y5, y6, y7, yf⟩ := BY.out.c; obtain ⟨z0, z1, z2, z3, z4, z5, z6, z7, zf⟩ := BZ.out.c; clear xf yf zf; obtain ⟨g0, g1, g2, g3, g4, g5, g6, g7, gf⟩ := BG.out.c) | (go_at_call 17; with_reducible refine (MGG.out _ HW.out).mono ?_; rintro e_ w_ ⟨rfl, hb⟩; have n0 := Aside0.mk (below_then HW.out HW.out.size hb); have n1 := Aside0.mk (BX.out.below hb); have n2 := Aside0.mk (BY.out.below hb); have n3 := Aside0.mk (BZ.out.below hb); have n4 := Aside0.mk (BG.out.below hb); clear HW BX BY BZ BG hb; clear g0 g1 g2 g3 g4 g5 g6 g7 gf; clear x0 x1 x2 x3 x4 x5 x6 x7 y0 y1 y2 y3 y4 y5 y6 y7 z0 z1 z2 z3 z4 z5 z6 z7; have HW := n0; have BX := n1; have BY := n2; have BZ := n3; have BG := n4; clear n0 n1 n2 n3 n4; obtain ⟨x0, x1, x2, x3, x4, x5, x6, x7, xf⟩ := BX.out.c; obtain ⟨y0, y1, y2, y3, y4, y5, y6, y7, yf⟩ := BY.out.c; obtain ⟨z0, z1, z2, z3, z4, z5, z6, z7, zf⟩ := BZ.out.c; clear xf yf zf; obtain ⟨g0, g1, g2, g3, g4, g5, g6, g7, gf⟩ := BG.out.c) | fail)
            go_ret
            exact ⟨rfl, HW.out⟩
          · have gd : decide (Y.f2.f0 < 2147483648) = false := decide_eq_false gr
            clear gr
            go_wp2_with (first | (go_at_call 17; with_reducible refine (M1.out _ HW.out).mono ?_; rintro e_ w_ ⟨rfl, hb⟩; have n0 := Aside0.mk (below_then HW.out HW.out.size hb); have n1 := Aside0.mk (BX.out.below hb); have n2 := Aside0.mk (BY.out.below hb); have n3 := Aside0.mk (BZ.out.below hb); have n4 := Aside0.mk (BG.out.below hb); clear HW BX BY BZ BG hb; clear g0 g1 g2 g3 g4 g5 g6 g7 gf; clear x0 x1 x2 x3 x4 x5 x6 x7 y0 y1 y2 y3 y4 y5 y6 y7 z0 z1 z2 z3 z4 z5 z6 z7; have HW := n0; have BX := n1; have BY := n2; have BZ := n3; have BG := n4; clear n0 n1 n2 n3 n4; obtain ⟨x0, x1, x2, x3, x4, x5, x6, x7, xf⟩ := BX.out.c; obtain ⟨y0, y1, y2, y3, y4, y5, y6, y7, yf⟩ := BY.out.c; obtain ⟨z0, z1, z2, z3, z4, z5, z6, z7, zf⟩ := BZ.out.c; clear xf yf zf; obtain ⟨g0, g1, g2, g3, g4, g5, g6, g7, gf⟩ := BG.out.c) | fail)
            go_ret
            exact ⟨rfl, HW.out⟩
        | true =>
          have M := MYZ.out
          rw [e2] at M
          have M2 := Aside0.mk M
          clear M
          have M := MXZ.out
          rw [DXZ.out e1 e2] at M
          have M3 := Aside0.mk M
          clear M
          go_upto_region 10 with (first | (go_at_call 17; with_reducible refine (M1.out _ HW.out).mono ?_; rintro e_ w_ ⟨rfl, hb⟩; have n0 := Aside0.mk (below_then HW.out HW.out.size hb); have n1 := Aside0.mk (BX.out.below hb); have n2 := Aside0.mk (BY.out.below hb); have n3 := Aside0.mk (BZ.out.below hb); clear HW BX BY BZ hb; clear x0 x1 x2 x3 x4 x5 x6 x7 y0 y1 y2 y3 y4 y5 y6 y7 z0 z1 z2 z3 z4 z5 z6 z7; have HW := n0; have BX := n1; have BY := n2; have BZ := n3; clear n0 n1 n2 n3; obtain ⟨x0, x1, x2, x3, x4, x5, x6, x7, xf⟩ := BX.out.c; obtain ⟨y0, y1, y2, y3, y4, y5, y6, y7, yf⟩ := BY.out.c; obtain ⟨z0, z1, z2, z3, z4, z5, z6, z7, zf⟩ := BZ.out.c; clear xf yf zf) | (go_at_call 17; with_reducible refine (M2.out _ HW.out).mono ?_; rintro e_ w_ ⟨rfl, hb⟩; have n0 := Aside0.mk (below_then HW.out HW.out.size hb); have n1 := Aside0.mk (BX.out.below hb); have n2 := Aside0.mk (BY.out.below hb); have n3 := Aside0.mk (BZ.out.below hb); clear HW BX BY BZ hb; clear x0 x1 x2 x3 x4 x5 x6 x7 y0 y1 y2 y3 y4 y5 y6 y7 z0 z1 z2 z3 z4 z5 z6 z7; have HW := n0; have BX := n1; have BY := n2; have BZ := n3; clear n0 n1 n2 n3; obtain ⟨x0, x1, x2, x3, x4, x5, x6, x7, xf⟩ := BX.out.c; obtain ⟨y0, y1, y2, y3, y4, y5, y6, y7, yf⟩ := BY.out.c; obtain ⟨z0, z1, z2, z3, z4, z5, z6, z7, zf⟩ := BZ.out.c; clear xf yf zf) | (go_at_call 17; with_reducible refine (M3.out _ HW.out).mono ?_; rintro e_ w_ ⟨rfl, hb⟩; have n0 := Aside0.mk (below_then HW.out HW.out.size hb); have n1 := Aside0.mk (BX.out.below hb); have n2 := Aside0.mk (BY.out.below hb); have n3 := Aside0.mk (BZ.out.below hb); clear HW BX BY BZ hb; clear x0 x1 x2 x3 x4 x5 x6 x7 y0 y1 y2 y3 y4 y5 y6 y7 z0 z1 z2 z3 z4 z5 z6 z7; have HW := n0; have BX := n1; have BY := n2; have BZ := n3; clear n0 n1 n2 n3; obtain ⟨x0, x1, x2, x3, x4, x5, x6, x7, xf⟩ := BX.out.c; obtain ⟨y0, y1, y2, y3, y4, y5, y6, y7, yf⟩ := BY.out.c; obtain ⟨z0, z1, z2, z3, z4, z5, z6, z7, zf⟩ := BZ.out.c; clear xf yf zf) | fail)
          have G := grow9 rfl HW.out BX.out BY.out BZ.out
          generalize (w_.alloc (.cells #[.int .i64 Y.f0, .slice B0 Y.f1.f0.length b0, .slice B1 Y.f1.f1.length b1, .int .u32 Y.f2.f0, .int .u32 Y.f2.f1, .bool Y.f2.f2, .int .u8 Y.f3.f0, .bool Y.f3.f1] 41)) = w9 at G ⊢
          generalize w_.heap.size = qg at G ⊢
          obtain ⟨g1, g2, g3, g4, g5, g6⟩ := G
          clear HW BX BY BZ
          clear x0 x1 x2 x3 x4 x5 x6 x7 y0 y1 y2 y3 y4 y5 y6 y7 z0 z1 z2 z3 z4 z5 z6 z7
          have BX := Aside0.mk g1
          have BY := Aside0.mk g2
          have BZ := Aside0.mk g3
          have BG := Aside0.mk g4
          have HW := Aside0.mk g5
          have HQ := Aside0.mk g6
          clear g1 g2 g3 g4 g5 g6
          obtain ⟨x0, x1, x2, x3, x4, x5, x6, x7, xf⟩ := BX.out.c; obtain ⟨y0, y1, y2, y3, y4, y5, y6, y7, yf⟩ := BY.out.c; obtain ⟨z0, z1, z2, z3, z4, z5, z6, z7, zf⟩ := BZ.out.c; clear xf yf zf
          obtain ⟨g0, g1, g2, g3, g4, g5, g6, g7, gf⟩ := BG.out.c
          by_cases gr : Y.f2.f0 < 2147483648
          · have gd : decide (Y.f2.f0 < 2147483648) = true := decide_eq_true gr
            have dG : Link.mt X Y = true → Link.mt X ⟨Y.f0, Y.f1, ⟨Y.f2.f0 + Z.f2.f0 % 5, Y.f2.f1, Y.f2.f2⟩, Y.f3⟩ = true := fun h => by
              have := mt_grown X Y Z NZ.out.1 h
              unfold grown at this
              rwa [if_pos gr] at this
            have MG := MXG.out (Y.f2.f0 + Z.f2.f0 % 5)
            rw [dG e1] at MG
            have MGG := Aside0.mk MG
            clear MG dG
            obtain ⟨ny0, ny1⟩ := NY.out
            obtain ⟨nz0, nz1⟩ := NZ.out
            go_upto_region 12 with (fail)
            have G := grow12 rfl HW.out BX.out BY.out BZ.out BG.out HQ.out (Y.f2.f0 + Z.f2.f0 % 5)
            generalize (w9.setCell ⟨qg, 3, none⟩ (.int .u32 (Y.f2.f0 + Z.f2.f0 % 5))) = w12 at G ⊢
            clear g0 g1 g2 g3 g4 g5 g6 g7 gf
            obtain ⟨g1, g2, g3, g4, g5⟩ := G
            clear HW BX BY BZ BG
            clear x0 x1 x2 x3 x4 x5 x6 x7 y0 y1 y2 y3 y4 y5 y6 y7 z0 z1 z2 z3 z4 z5 z6 z7
            have BX := Aside0.mk g1
            have BY := Aside0.mk g2
            have BZ := Aside0.mk g3
            have BG := Aside0.mk g4
            have HW := Aside0.mk g5
            clear g1 g2 g3 g4 g5
            obtain ⟨x0, x1, x2, x3, x4, x5, x6, x7, xf⟩ := BX.out.c; obtain ⟨y0, y1, y2, y3, y4, y5, y6, y7, yf⟩ := BY.out.c; obtain ⟨z0, z1, z2, z3, z4, z5, z6, z7, zf⟩ := BZ.out.c; clear xf yf zf
            obtain ⟨g0, g1, g2, g3, g4, g5, g6, g7, gf⟩ := BG.out.c
            go_wp2_with (first | (go_at_call 17; with_reducible refine (M1.out _ HW.out).mono ?_; rintro e_ w_ ⟨rfl, hb⟩; have n0 := Aside0.mk (below_then HW.out HW.out.size hb); have n1 := Aside0.mk (BX.out.below hb); have n2 := Aside0.mk (BY.out.below hb); have n3 := Aside0.mk (BZ.out.below hb); have n4 := Aside0.mk (BG.out.below hb); clear HW BX BY BZ BG hb; clear g0 g1 g2 g3 g4 g5 g6 g7 gf; clear x0 x1 x2 x3 x4 x5 x6 x7 y0 y1 y2 y3 y4 y5 y6 y7 z0 z1 z2 z3 z4 z5 z6 z7; have HW := n0; have BX := n1; have BY := n2; have BZ := n3; have BG := n4; clear n0 n1 n2 n3 n4; obtain ⟨x0, x1, x2, x3, x4, x5, x6, x7, xf⟩ := BX.out.c; obtain ⟨y0, y1, y2, y3, y4, y5, y6, y7, yf⟩ := BY.out.c; obtain ⟨z0, z1, z2, z3, z4, z5, z6, z7, zf⟩ := BZ.out.c; clear xf yf zf; obtain ⟨g0, g1, g2, g3, g4, g5, g6, g7, gf⟩ := BG.out.c) | (go_at_call 17; with_reducible refine (MGG.out _ HW.out).mono ?_; rintro e_ w_ ⟨rfl, hb⟩; have n0 := Aside0.mk (below_then HW.out HW.out.size hb); have n1 := Aside0.mk (BX.out.below hb); have n2 := Aside0.mk (BY.out.below hb); have n3 := Aside0.mk (BZ.out.below hb); have n4 := Aside0.mk (BG.out.below hb); clear HW BX BY BZ BG hb; clear g0 g1 g2 g3 g4 g5 g6 g7 gf; clear x0 x1 x2 x3 x4 x5 x6 x7 y0 y1 y2 y3 y4 y5 y6 y7 z0 z1 z2 z3 z4 z5 z6 z7; have HW := n0; have BX := n1; have BY := n2; have BZ := n3; have BG := n4; clear n0 n1 n2 n3 n4; obtain ⟨x0, x1, x2, x3, x4, x5, x6, x7, xf⟩ := BX.out.c; obtain ⟨y0, y1, y2, y3, y4, y5, y6, y7, yf⟩ := BY.out.c; obtain ⟨z0, z1, z2, z3, z4, z5, z6, z7, zf⟩ := BZ.out.c; clear xf yf zf; obtain ⟨g0, g1, g2, g3, g4, g5, g6, g7, gf⟩ := BG.out.c) | fail)
            go_ret
            exact ⟨rfl, HW.out⟩
          · have gd : decide (Y.f2.f0 < 2147483648) = false := decide_eq_false gr
            clear gr
            go_wp2_with (first | (go_at_call 17; with_reducible refine (M1.out _ HW.out).mono ?_; rintro e_ w_ ⟨rfl, hb⟩; have n0 := Aside0.mk (below_then HW.out HW.out.size hb); have n1 := Aside0.mk (BX.out.below hb); have n2 := Aside0.mk (BY.out.below hb); have n3 := Aside0.mk (BZ.out.below hb); have n4 := Aside0.mk (BG.out.below hb); clear HW BX BY BZ BG hb; clear g0 g1 g2 g3 g4 g5 g6 g7 gf; clear x0 x1 x2 x3 x4 x5 x6 x7 y0 y1 y2 y3 y4 y5 y6 y7 z0 z1 z2 z3 z4 z5 z6 z7; have HW := n0; have BX := n1; have BY := n2; have BZ := n3; have BG := n4; clear n0 n1 n2 n3 n4; obtain ⟨x0, x1, x2, x3, x4, x5, x6, x7, xf⟩ := BX.out.c; obtain ⟨y0, y1, y2, y3, y4, y5, y6, y7, yf⟩ := BY.out.c; obtain ⟨z0, z1, z2, z3, z4, z5, z6, z7, zf⟩ := BZ.out.c; clear xf yf zf; obtain ⟨g0, g1, g2, g3, g4, g5, g6, g7, gf⟩ := BG.out.c) | fail)
            go_ret
            exact ⟨rfl, HW.out⟩
end Go.Proofs.Ytkpjdkmggbelfaa.Link
