/- The law OperandNone: it returns true. -/
import Derived.Test.YtkpjdkmggbelfaaOpNone
import Derived.Test.YtkpjdkmggbelfaaPOperandNonex1
import Derived.Test.YtkpjdkmggbelfaaOpOpn2

namespace Go.Proofs.Ytkpjdkmggbelfaa.Operand
open Go.RowKit Go.Proofs.YtkpjdkmggbelfaaW.PrintWords Go.Proofs.YtkpjdkmggbelfaaW.PrintLast Go.Proofs.YtkpjdkmggbelfaaW.PrintMore Go.Proofs.Ytkpjdkmggbelfaa.Mem Go.Proofs.Ytkpjdkmggbelfaa.POperandNone
set_option linter.unusedVariables false
set_option linter.unusedSimpArgs false
/-- An op that a play goes through with. -/
def fewOp (X : S133) : Bool := decide (X.f1.length + X.f2.length ≤ 50)
def fewM (l : List S133) (most : Int) : Bool := l.all fewOp && decide ((l.length : Int) ≤ most)
theorem few_from (l : List S133) (most : Int) (hl : l.length ≤ 9223372036854775807) (hin : ∀ x ∈ l, x.f1.length ≤ 1000000000000 ∧ x.f2.length ≤ 1000000000000) (d : Nat) : ∀ (i k : Nat), i + d = l.length → d < k →
    trunnionlaw22_few.l0 k l most l (l.length : Int) (i : Int) = some ((l.drop i).all fewOp && decide ((l.length : Int) ≤ most)) := by
  induction d with
  | zero =>
    intro i k hi hk
    obtain ⟨k, rfl⟩ : ∃ m, k = m + 1 := ⟨k - 1, by omega⟩
    simp only [trunnionlaw22_few.l0]
    rw [if_neg (by omega), List.drop_eq_nil_of_le (by omega)]
    simp
  | succ d ih =>
    intro i k hi hk
    obtain ⟨k, rfl⟩ : ∃ m, k = m + 1 := ⟨k - 1, by omega⟩
    have hlt : i < l.length := by omega
    have e1 : rd_T133 l (i : Int) = l[i] := by simp [rd_T133, List.getD_eq_getElem?_getD, List.getElem?_eq_getElem hlt]
    have hx := hin _ (List.getElem_mem hlt)
    simp only [trunnionlaw22_few.l0]
    rw [if_pos (by omega), if_pos (by omega), if_pos (by omega), e1, List.drop_eq_getElem_cons hlt, List.all_cons]
    have e2 : wrap64 ((l[i].f1.length : Int) + (l[i].f2.length : Int)) = (l[i].f1.length : Int) + (l[i].f2.length : Int) := by unfold wrap64; omega
    have e3 : wrap64 ((i : Int) + 1) = ((i + 1 : Nat) : Int) := by unfold wrap64; omega
    rw [e2, e3]
    by_cases c : l[i].f1.length + l[i].f2.length ≤ 50
    · rw [if_neg (by omega), ih (i + 1) k (by omega) (by omega)]
      simp [fewOp, c]
    · rw [if_pos (by omega)]
      simp [fewOp, c]
theorem few_is (l : List S133) (most : Int) (hl : l.length ≤ 9223372036854775807) (hin : ∀ x ∈ l, x.f1.length ≤ 1000000000000 ∧ x.f2.length ≤ 1000000000000) : ∃ k, trunnionlaw22_few.f k l most = some (fewM l most) :=
  ⟨l.length + 1, few_from l most hl hin l.length 0 (l.length + 1) (by omega) (by omega)⟩
theorem few_any (X : S133) : ∃ r k, trunnionlaw22_few.f k [X] 1 = some r := by
  by_cases c : wrap64 (((rd_T133 [X] 0).f1.length : Int) + ((rd_T133 [X] 0).f2.length : Int)) > 50
  · exact ⟨false, 1, by unfold trunnionlaw22_few.f; simp only [trunnionlaw22_few.l0]; rw [if_pos (by simp), if_pos (by omega), if_pos (by simp), if_pos c]⟩
  · have e : wrap64 ((0 : Int) + 1) = 1 := by unfold wrap64; omega
    exact ⟨_, 2, by unfold trunnionlaw22_few.f; simp only [trunnionlaw22_few.l0]; rw [if_pos (by simp), if_pos (by omega), if_pos (by simp), if_neg c, e, if_neg (by simp)]⟩
/-- One op, as it is laid. -/
theorem lit_op (W : World) (X : S133) (A1 A2 : Option Addr) (c1 c2 : Nat) (l1 : X.f1.length ≤ c1) (g1 : ku.C W A1 X.f1.length X.f1) (l2 : X.f2.length ≤ c2) (g2 : ku.C W A2 X.f2.length X.f2) :
    Kd.C k133 (W.alloc (.cells #[.int .i64 X.f0, .slice A1 X.f1.length c1, .slice A2 X.f2.length c2, .int .u8 X.f3, .int .u32 X.f4] 133)) (some ⟨W.heap.size, 0, none⟩) [X].length [X] := by
  refine ⟨rfl, by simp, fun _ => ⟨_, rfl, fun j p hj => ?_⟩⟩
  cases j with
  | succ j => simp at hj
  | zero =>
    simp at hj
    subst hj
    have hb := below_alloc (Below.refl W.heap.size W) (.cells #[.int .i64 X.f0, .slice A1 X.f1.length c1, .slice A2 X.f2.length c2, .int .u8 X.f3, .int .u32 X.f4] 133)
    refine ⟨_, rfl, k133_mk _ X l1 (Kd.C_below g1 hb) l2 (Kd.C_below g2 hb), fun i u hi => ?_⟩
    rw [add_plain, blk_cell (heap_alloc_new W (.cells #[.int .i64 X.f0, .slice A1 X.f1.length c1, .slice A2 X.f2.length c2, .int .u8 X.f3, .int .u32 X.f4] 133))]
    show (#[.int .i64 X.f0, .slice A1 X.f1.length c1, .slice A2 X.f2.length c2, .int .u8 X.f3, .int .u32 X.f4] : Array Value)[0 * 5 + i]? = some u
    rw [Nat.zero_mul, Nat.zero_add]
    simpa using hi
def posOf : Nat → Int
  | 0 => 2
  | 1 => 1
  | _ => 0
set_option maxRecDepth 100000 in
set_option maxHeartbeats 8000000 in
theorem none_walk (w : World) (X : S133) (A1 A2 : Option Addr) (c1 c2 : Nat) (l1 : X.f1.length ≤ c1) (g1 : ku.C w A1 X.f1.length X.f1) (l2 : X.f2.length ≤ c2) (g2 : ku.C w A2 X.f2.length X.f2) :
    Calls Try.prog 11 #[.agg #[.int .i64 X.f0, .slice A1 X.f1.length c1, .slice A2 X.f2.length c2, .int .u8 X.f3, .int .u32 X.f4]] w fun e w' => e = .returned (.bool true) ∧ Below w.heap.size w w' := by
  have hu133 := Try.underlying133
  have hu139 := Try.underlying139
  obtain ⟨r, k, hk⟩ := few_any X
  have FC := Aside0.mk (fun (W : World) (hW : Below w.heap.size w W) => trunnionlaw22_few.calls k (some ⟨W.heap.size, 0, none⟩) 1 [X] 1 r (W.alloc (.cells #[.int .i64 X.f0, .slice A1 X.f1.length c1, .slice A2 X.f2.length c2, .int .u8 X.f3, .int .u32 X.f4] 133)) (lit_op W X A1 A2 c1 c2 l1 (Kd.C_below g1 hW) l2 (Kd.C_below g2 hW)) (Nat.le_refl _) hk)
  have HB := Aside0.mk (below_alloc (Below.refl w.heap.size w) (.cells #[.int .i64 X.f0, .slice A1 X.f1.length c1, .slice A2 X.f2.length c2, .int .u8 X.f3, .int .u32 X.f4] 133))
  have BX := Aside0.mk (heap_alloc_new w (.cells #[.int .i64 X.f0, .slice A1 X.f1.length c1, .slice A2 X.f2.length c2, .int .u8 X.f3, .int .u32 X.f4] 133))
  clear hk l1 g1 l2 g2
  go_enter Try.func11, Try.ntmps11
  go_wp2_with fail
  refine (awake_calls _).mono ?_
  rintro e w1 ⟨rfl, hb⟩
  have HB1 := Aside0.mk (below_then HB.out HB.out.size hb)
  have BX1 : w1.heap[w.heap.size]? = some (.cells #[.int .i64 X.f0, .slice A1 X.f1.length c1, .slice A2 X.f2.length c2, .int .u8 X.f3, .int .u32 X.f4] 133 (0, 0)) := (hb.block _ (blk_lt BX.out)).trans BX.out
  have q0 : w1.cell? ⟨w.heap.size, 0, none⟩ = some (.int .i64 X.f0) := (blk_cell BX1 0).trans rfl
  have q1 : w1.cell? ⟨w.heap.size, 1, none⟩ = some (.slice A1 X.f1.length c1) := (blk_cell BX1 1).trans rfl
  have q2 : w1.cell? ⟨w.heap.size, 2, none⟩ = some (.slice A2 X.f2.length c2) := (blk_cell BX1 2).trans rfl
  have q3 : w1.cell? ⟨w.heap.size, 3, none⟩ = some (.int .u8 X.f3) := (blk_cell BX1 3).trans rfl
  have q4 : w1.cell? ⟨w.heap.size, 4, none⟩ = some (.int .u32 X.f4) := (blk_cell BX1 4).trans rfl
  have BB := Aside0.mk BX1
  clear hb BX BX1 HB
  go_wp2_with fail
  refine (FC.out w1 HB1.out).mono ?_
  rintro e w2 ⟨rfl, hb⟩
  have HB2 := Aside0.mk (below_then (HB1.out.alloc HB1.out.size (.cells #[.int .i64 X.f0, .slice A1 X.f1.length c1, .slice A2 X.f2.length c2, .int .u8 X.f3, .int .u32 X.f4] 133)) (HB1.out.alloc HB1.out.size (.cells #[.int .i64 X.f0, .slice A1 X.f1.length c1, .slice A2 X.f2.length c2, .int .u8 X.f3, .int .u32 X.f4] 133)).size hb)
  have BX2 : w2.heap[w.heap.size]? = some (.cells #[.int .i64 X.f0, .slice A1 X.f1.length c1, .slice A2 X.f2.length c2, .int .u8 X.f3, .int .u32 X.f4] 133 (0, 0)) := (hb.block _ (by rw [World.size_alloc]; have := blk_lt BB.out; omega)).trans ((Below.heap_alloc w1 _ _ (blk_lt BB.out)).trans BB.out)
  have BB2 := Aside0.mk BX2
  clear hb BB BX2 HB1 q0 q1 q2 q3 q4
  cases r with
  | false =>
    go_wp2
    go_ret
    exact ⟨rfl, HB2.out⟩
  | true =>
    go_wp2
    have BX3 : Aside0 (((w2.alloc (.cells #[.slice none 0 0, .bool false] 139)).alloc (.cells #[.pointer none, .pointer (some ⟨w2.heap.size, 0, none⟩)] 115)).heap[w.heap.size]? = some (.cells #[.int .i64 X.f0, .slice A1 X.f1.length c1, .slice A2 X.f2.length c2, .int .u8 X.f3, .int .u32 X.f4] 133 (0, 0))) :=
      Aside0.mk ((Below.heap_alloc _ _ _ (by rw [World.size_alloc]; have := blk_lt BB2.out; omega)).trans ((Below.heap_alloc w2 _ _ (blk_lt BB2.out)).trans BB2.out))
    have PR3 : Aside0 (((w2.alloc (.cells #[.slice none 0 0, .bool false] 139)).alloc (.cells #[.pointer none, .pointer (some ⟨w2.heap.size, 0, none⟩)] 115)).heap[w2.heap.size + 1]? = some (.cells #[.pointer none, .pointer (some ⟨w2.heap.size, 0, none⟩)] 115 (0, 0))) := by
      have := heap_alloc_new (w2.alloc (.cells #[.slice none 0 0, .bool false] 139)) (.cells #[.pointer none, .pointer (some ⟨w2.heap.size, 0, none⟩)] 115)
      rw [World.size_alloc] at this
      exact Aside0.mk this
    have SB3 : Aside0 (Box ((w2.alloc (.cells #[.slice none 0 0, .bool false] 139)).alloc (.cells #[.pointer none, .pointer (some ⟨w2.heap.size, 0, none⟩)] 115)) w2.heap.size (.slice none 0 0) false) :=
      Aside0.mk ((Below.heap_alloc _ _ _ (by rw [World.size_alloc]; omega)).trans (heap_alloc_new w2 _))
    have HB3 : Aside0 (Below w.heap.size w ((w2.alloc (.cells #[.slice none 0 0, .bool false] 139)).alloc (.cells #[.pointer none, .pointer (some ⟨w2.heap.size, 0, none⟩)] 115))) := Aside0.mk ((HB2.out.alloc HB2.out.size _).alloc (by have := HB2.out.size; rw [World.size_alloc]; omega) _)
    obtain ⟨W3, hW3⟩ : ∃ W3, W3 = ((w2.alloc (.cells #[.slice none 0 0, .bool false] 139)).alloc (.cells #[.pointer none, .pointer (some ⟨w2.heap.size, 0, none⟩)] 115)) := ⟨_, rfl⟩
    rw [← hW3] at BX3 PR3 SB3 HB3 ⊢
    clear hW3
    go_loopg [23] 2 (fun d v23 w' => v23 = .int .i64 (posOf d) ∧ Aside0 (d ≤ 2) ∧ Aside0 (Below W3.heap.size W3 w'))
    case atStart => exact ⟨rfl, ⟨Nat.le_refl _⟩, ⟨Below.refl _ _⟩⟩
    case round =>
      obtain ⟨rfl, HD, HB⟩ := hrel
      have BXr : wr.heap[w.heap.size]? = some (.cells #[.int .i64 X.f0, .slice A1 X.f1.length c1, .slice A2 X.f2.length c2, .int .u8 X.f3, .int .u32 X.f4] 133 (0, 0)) := (HB.out.block _ (blk_lt BX3.out)).trans BX3.out
      have q1 : wr.cell? ⟨w.heap.size, 1, none⟩ = some (.slice A1 X.f1.length c1) := (blk_cell BXr 1).trans rfl
      have q2 : wr.cell? ⟨w.heap.size, 2, none⟩ = some (.slice A2 X.f2.length c2) := (blk_cell BXr 2).trans rfl
      have q3 : wr.cell? ⟨w.heap.size, 3, none⟩ = some (.int .u8 X.f3) := (blk_cell BXr 3).trans rfl
      have q4 : wr.cell? ⟨w.heap.size, 4, none⟩ = some (.int .u32 X.f4) := (blk_cell BXr 4).trans rfl
      have PRr : wr.heap[w2.heap.size + 1]? = some (.cells #[.pointer none, .pointer (some ⟨w2.heap.size, 0, none⟩)] 115 (0, 0)) := (HB.out.block _ (blk_lt PR3.out)).trans PR3.out
      have p0 : wr.cell? ⟨w2.heap.size + 1, 0, none⟩ = some (.pointer none) := (blk_cell PRr 0).trans rfl
      have p1 : wr.cell? ⟨w2.heap.size + 1, 1, none⟩ = some (.pointer (some ⟨w2.heap.size, 0, none⟩)) := (blk_cell PRr 1).trans rfl
      clear BXr PRr
      have SBr : Box wr w2.heap.size (.slice none 0 0) false := (HB.out.block _ (blk_lt SB3.out)).trans SB3.out
      have N0 := Aside0.mk (show NoStk wr none from .inl rfl)
      have N1 := Aside0.mk (show NoStk wr (some ⟨w2.heap.size, 0, none⟩) from .inr ⟨_, _, rfl, SBr⟩)
      clear SBr
      match gk with
      | 0 =>
        simp only [posOf]
        go_wp2
        go_ret
        exact ⟨rfl, below_then HB3.out HB3.out.size HB.out⟩
      | 1 =>
        simp only [posOf]
        have HN := N1
        go_wp2_with (first
          | (go_at_call 37; (with_reducible refine (Open_no _ _ HN.out _ _).mono ?_); rintro e w' ⟨rfl, rfl⟩)
          | (go_at_call 38; (with_reducible refine (Push_no _ _ HN.out _).mono ?_); rintro e w' ⟨rfl, rfl⟩)
          | (go_at_call 42; (with_reducible refine (Kill_no _ _ HN.out).mono ?_); rintro e w' ⟨rfl, rfl⟩)
          | (go_at_call 41; (with_reducible refine (Pop_no _ _ HN.out _).mono ?_); rintro e w' ⟨rfl, rfl⟩)
          | (go_at_call 39; (with_reducible refine (Close_no _ _ HN.out).mono ?_); rintro e w' ⟨rfl, rfl⟩)
          | (go_at_call 48; (with_reducible refine (Label_no _ _ HN.out _).mono ?_); rintro e w' ⟨rfl, rfl⟩)
          | (go_at_call 43; (with_reducible refine (Take_no _ _ HN.out _).mono ?_); rintro e w' ⟨rfl, rfl⟩)
          | (go_at_call 46; (with_reducible refine (Frames_no _ _ HN.out).mono ?_); rintro e w' ⟨rfl, rfl⟩)
          | (go_at_call 40; (with_reducible refine (Lying_no _ _ HN.out).mono ?_); rintro e w' ⟨rfl, rfl⟩)
          | fail)
        go_roundg 0
        case measure => omega
        case rel => exact ⟨rfl, ⟨by omega⟩, HB⟩
      | 2 =>
        simp only [posOf]
        have HN := N0
        go_wp2_with (first
          | (go_at_call 37; (with_reducible refine (Open_no _ _ HN.out _ _).mono ?_); rintro e w' ⟨rfl, rfl⟩)
          | (go_at_call 38; (with_reducible refine (Push_no _ _ HN.out _).mono ?_); rintro e w' ⟨rfl, rfl⟩)
          | (go_at_call 42; (with_reducible refine (Kill_no _ _ HN.out).mono ?_); rintro e w' ⟨rfl, rfl⟩)
          | (go_at_call 41; (with_reducible refine (Pop_no _ _ HN.out _).mono ?_); rintro e w' ⟨rfl, rfl⟩)
          | (go_at_call 39; (with_reducible refine (Close_no _ _ HN.out).mono ?_); rintro e w' ⟨rfl, rfl⟩)
          | (go_at_call 48; (with_reducible refine (Label_no _ _ HN.out _).mono ?_); rintro e w' ⟨rfl, rfl⟩)
          | (go_at_call 43; (with_reducible refine (Take_no _ _ HN.out _).mono ?_); rintro e w' ⟨rfl, rfl⟩)
          | (go_at_call 46; (with_reducible refine (Frames_no _ _ HN.out).mono ?_); rintro e w' ⟨rfl, rfl⟩)
          | (go_at_call 40; (with_reducible refine (Lying_no _ _ HN.out).mono ?_); rintro e w' ⟨rfl, rfl⟩)
          | fail)
        go_roundg 1
        case measure => omega
        case rel => exact ⟨rfl, ⟨by omega⟩, HB⟩
      | n + 3 => exact absurd HD.out (by omega)
end Go.Proofs.Ytkpjdkmggbelfaa.Operand
