/- Every type that is one matches itself; what matches what matches, matches; what has grown matches what it matched: the plain law; and things in boxes. -/
import Derived.Test.YtkpjdkmggbelfaaLinkOpen
namespace Go.Proofs.Ytkpjdkmggbelfaa.Link
open Go.RowKit Go.Proofs.YtkpjdkmggbelfaaW.PrintWords Go.Proofs.YtkpjdkmggbelfaaW.PrintLast Go.Proofs.YtkpjdkmggbelfaaW.PrintMore Go.Proofs.Ytkpjdkmggbelfaa.Q29 Go.Proofs.Ytkpjdkmggbelfaa.Open
set_option linter.unusedVariables false
set_option linter.unusedSimpArgs false

theorem mt_self (x : S41) (h0 : 0 ≤ x.f0) (h1 : x.f0 ≤ 3) : Link.mt x x = true := by
  unfold Link.mt matchP
  rw [if_pos rfl]
  by_cases c0 : x.f0 = 0
  · rw [if_pos c0]; simp
  · rw [if_neg c0]
    by_cases c1 : x.f0 = 1 ∨ x.f0 = 2
    · rw [if_pos c1]; cases x.f2.f2 <;> simp
    · rw [if_neg c1, if_pos (by omega)]; simp
theorem mt_trans (x y z : S41) (h : Link.mt x y = true) (k : Link.mt y z = true) : Link.mt x z = true := by
  unfold Link.mt matchP at *
  by_cases e : x.f0 = y.f0
  · rw [if_pos e] at h
    by_cases e2 : y.f0 = z.f0
    · rw [if_pos e2] at k
      rw [if_pos (e.trans e2)]
      rw [← e] at k
      by_cases c0 : x.f0 = 0
      · rw [if_pos c0] at *
        simp only [Bool.and_eq_true, decide_eq_true_eq] at *
        exact ⟨h.1.trans k.1, h.2.trans k.2⟩
      · rw [if_neg c0] at *
        by_cases c1 : x.f0 = 1 ∨ x.f0 = 2
        · rw [if_pos c1] at *
          simp only [Bool.and_eq_true, decide_eq_true_eq] at *
          refine ⟨by omega, ?_⟩
          cases hx : x.f2.f2 with
          | false => simp
          | true =>
            have h2 := h.2
            have k2 := k.2
            rw [hx] at h2
            simp only [if_true, Bool.and_eq_true, decide_eq_true_eq] at h2
            rw [h2.1] at k2
            simp only [if_true, Bool.and_eq_true, decide_eq_true_eq] at k2 ⊢
            exact ⟨k2.1, by omega⟩
        · rw [if_neg c1] at *
          by_cases c2 : x.f0 = 3
          · rw [if_pos c2] at *
            simp only [Bool.and_eq_true, beq_iff_eq] at *
            exact ⟨h.1.trans k.1, h.2.trans k.2⟩
          · rw [if_neg c2] at h
            cases h
    · rw [if_neg e2] at k
      cases k
  · rw [if_neg e] at h
    cases h
/-- What has grown. -/
def grown (y z : S41) : S41 := if y.f2.f0 < 2147483648 then ⟨y.f0, y.f1, ⟨y.f2.f0 + z.f2.f0 % 5, y.f2.f1, y.f2.f2⟩, y.f3⟩ else y
theorem mt_grown (x y z : S41) (hz : 0 ≤ z.f2.f0) (h : Link.mt x y = true) : Link.mt x (grown y z) = true := by
  unfold grown
  split
  · unfold Link.mt matchP at *
    by_cases e : x.f0 = y.f0
    · rw [if_pos e] at *
      by_cases c0 : x.f0 = 0
      · rw [if_pos c0] at *
        exact h
      · rw [if_neg c0] at *
        by_cases c1 : x.f0 = 1 ∨ x.f0 = 2
        · rw [if_pos c1] at *
          simp only [Bool.and_eq_true, decide_eq_true_eq] at *
          exact ⟨by omega, h.2⟩
        · rw [if_neg c1] at *
          exact h
    · rw [if_neg e] at h
      cases h
  · exact h
/-- One thing in a box of its own. -/
def Bx (w : World) (q : Nat) (X : S41) (A0 : Option Addr) (c0 : Nat) (A1 : Option Addr) (c1 : Nat) : Prop := w.heap[q]? = some (.cells #[.int .i64 X.f0, .slice A0 X.f1.f0.length c0, .slice A1 X.f1.f1.length c1, .int .u32 X.f2.f0, .int .u32 X.f2.f1, .bool X.f2.f2, .int .u8 X.f3.f0, .bool X.f3.f1] 41 (0, 0))
theorem Bx.c {w : World} {q : Nat} {X : S41} {A0 : Option Addr} {c0 : Nat} {A1 : Option Addr} {c1 : Nat} (h : Bx w q X A0 c0 A1 c1) :
    w.cell? ⟨q, 0, none⟩ = some (.int .i64 X.f0) ∧ w.cell? ⟨q, 1, none⟩ = some (.slice A0 X.f1.f0.length c0) ∧ w.cell? ⟨q, 2, none⟩ = some (.slice A1 X.f1.f1.length c1) ∧ w.cell? ⟨q, 3, none⟩ = some (.int .u32 X.f2.f0) ∧ w.cell? ⟨q, 4, none⟩ = some (.int .u32 X.f2.f1) ∧ w.cell? ⟨q, 5, none⟩ = some (.bool X.f2.f2) ∧ w.cell? ⟨q, 6, none⟩ = some (.int .u8 X.f3.f0) ∧ w.cell? ⟨q, 7, none⟩ = some (.bool X.f3.f1) ∧ w.frozen? ⟨q, 3, none⟩ = false := by
  unfold Bx at h
  refine ⟨?_, ?_, ?_, ?_, ?_, ?_, ?_, ?_, ?_⟩ <;> simp [World.cell?, World.frozen?, h]
theorem Bx.lt {w : World} {q : Nat} {X : S41} {A0 : Option Addr} {c0 : Nat} {A1 : Option Addr} {c1 : Nat} (h : Bx w q X A0 c0 A1 c1) : q < w.heap.size := by
  unfold Bx at h
  rcases Nat.lt_or_ge q w.heap.size with h1 | h1
  · exact h1
  · rw [Array.getElem?_eq_none h1] at h; cases h
theorem Bx.below {w w' : World} {q : Nat} {X : S41} {A0 : Option Addr} {c0 : Nat} {A1 : Option Addr} {c1 : Nat} (h : Bx w q X A0 c0 A1 c1) (hb : Below w.heap.size w w') : Bx w' q X A0 c0 A1 c1 := by
  have := h.lt
  unfold Bx at *
  rw [hb.block q this]; exact h
theorem Bx.new (w : World) (X : S41) (A0 : Option Addr) (c0 : Nat) (A1 : Option Addr) (c1 : Nat) : Bx (w.alloc (.cells #[.int .i64 X.f0, .slice A0 X.f1.f0.length c0, .slice A1 X.f1.f1.length c1, .int .u32 X.f2.f0, .int .u32 X.f2.f1, .bool X.f2.f2, .int .u8 X.f3.f0, .bool X.f3.f1] 41)) w.heap.size X A0 c0 A1 c1 := heap_alloc_new w _
set_option maxHeartbeats 2000000 in
/-- A row of three things, as the program lays it. -/
theorem lit3_C (w : World) (X Y Z : S41) {A0 A1 B0 B1 D0 D1 : Option Addr} {c0 c1 b0 b1 d0 d1 : Nat}
    (hx0 : X.f1.f0.length ≤ c0) (hx1 : Kd.C (Kd.int .u8) w A0 X.f1.f0.length X.f1.f0) (hx2 : X.f1.f1.length ≤ c1) (hx3 : Kd.C (Kd.int .u8) w A1 X.f1.f1.length X.f1.f1)
    (hy0 : Y.f1.f0.length ≤ b0) (hy1 : Kd.C (Kd.int .u8) w B0 Y.f1.f0.length Y.f1.f0) (hy2 : Y.f1.f1.length ≤ b1) (hy3 : Kd.C (Kd.int .u8) w B1 Y.f1.f1.length Y.f1.f1)
    (hz0 : Z.f1.f0.length ≤ d0) (hz1 : Kd.C (Kd.int .u8) w D0 Z.f1.f0.length Z.f1.f0) (hz2 : Z.f1.f1.length ≤ d1) (hz3 : Kd.C (Kd.int .u8) w D1 Z.f1.f1.length Z.f1.f1) (cs : Array Value)
    (hcs : cs = #[.int .i64 X.f0, .slice A0 X.f1.f0.length c0, .slice A1 X.f1.f1.length c1, .int .u32 X.f2.f0, .int .u32 X.f2.f1, .bool X.f2.f2, .int .u8 X.f3.f0, .bool X.f3.f1, .int .i64 Y.f0, .slice B0 Y.f1.f0.length b0, .slice B1 Y.f1.f1.length b1, .int .u32 Y.f2.f0, .int .u32 Y.f2.f1, .bool Y.f2.f2, .int .u8 Y.f3.f0, .bool Y.f3.f1, .int .i64 Z.f0, .slice D0 Z.f1.f0.length d0, .slice D1 Z.f1.f1.length d1, .int .u32 Z.f2.f0, .int .u32 Z.f2.f1, .bool Z.f2.f2, .int .u8 Z.f3.f0, .bool Z.f3.f1]) :
    Kd.C k41 (w.alloc (.cells cs 41)) (some ⟨w.heap.size, 0, none⟩) [X, Y, Z].length [X, Y, Z] := by
  have hbl : Below w.heap.size w (w.alloc (.cells cs 41)) := below_alloc (Below.refl _ _) _
  have kx := k41_mk (w.alloc (.cells cs 41)) X hx0 (Kd.C_below hx1 hbl) hx2 (Kd.C_below hx3 hbl)
  have ky := k41_mk (w.alloc (.cells cs 41)) Y hy0 (Kd.C_below hy1 hbl) hy2 (Kd.C_below hy3 hbl)
  have kz := k41_mk (w.alloc (.cells cs 41)) Z hz0 (Kd.C_below hz1 hbl) hz2 (Kd.C_below hz3 hbl)
  have hb : (w.alloc (.cells cs 41)).heap[w.heap.size]? = some (.cells cs 41 (0, 0)) := heap_alloc_new w _
  have hcell : ∀ i : Nat, (w.alloc (.cells cs 41)).cell? ⟨w.heap.size, i, none⟩ = cs[i]? := by
    intro i
    simp only [World.cell?, hb]
    rfl
  refine ⟨rfl, by simp, fun _ => ⟨_, rfl, fun j p hj => ?_⟩⟩
  have ea : ∀ m : Nat, (⟨w.heap.size, 0, none⟩ : Addr).add m = ⟨w.heap.size, m, none⟩ := fun m => by rw [add_plain]
  match j, hj with
  | 0, hj =>
    obtain rfl : X = p := by simpa using hj
    refine ⟨_, rfl, kx, fun i u hi => ?_⟩
    show World.cell? _ ((⟨w.heap.size, 0, none⟩ : Addr).add (0 * 8 + i)) = some u
    rw [ea, hcell, hcs]
    have hi8 : i < 8 := (List.getElem?_eq_some_iff.1 hi).1
    match i, hi8 with
    | 0, _ | 1, _ | 2, _ | 3, _ | 4, _ | 5, _ | 6, _ | 7, _ => simpa using hi
  | 1, hj =>
    obtain rfl : Y = p := by simpa using hj
    refine ⟨_, rfl, ky, fun i u hi => ?_⟩
    show World.cell? _ ((⟨w.heap.size, 0, none⟩ : Addr).add (1 * 8 + i)) = some u
    rw [ea, hcell, hcs]
    have hi8 : i < 8 := (List.getElem?_eq_some_iff.1 hi).1
    match i, hi8 with
    | 0, _ | 1, _ | 2, _ | 3, _ | 4, _ | 5, _ | 6, _ | 7, _ => simpa using hi
  | 2, hj =>
    obtain rfl : Z = p := by simpa using hj
    refine ⟨_, rfl, kz, fun i u hi => ?_⟩
    show World.cell? _ ((⟨w.heap.size, 0, none⟩ : Addr).add (2 * 8 + i)) = some u
    rw [ea, hcell, hcs]
    have hi8 : i < 8 := (List.getElem?_eq_some_iff.1 hi).1
    match i, hi8 with
    | 0, _ | 1, _ | 2, _ | 3, _ | 4, _ | 5, _ | 6, _ | 7, _ => simpa using hi
  | j + 3, hj => simp at hj
end Go.Proofs.Ytkpjdkmggbelfaa.Link
