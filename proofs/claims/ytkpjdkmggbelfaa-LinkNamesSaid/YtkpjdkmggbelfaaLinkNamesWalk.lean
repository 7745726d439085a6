/- The walk of link.Names: it makes the pairs of names. -/
import Derived.Test.YtkpjdkmggbelfaaPLinkNamesx3
namespace Go.Proofs.Ytkpjdkmggbelfaa.Names
open Go.RowKit Go.Proofs.YtkpjdkmggbelfaaW.PrintWords Go.Proofs.YtkpjdkmggbelfaaW.PrintLast Go.Proofs.YtkpjdkmggbelfaaW.PrintMore Go.Proofs.Ytkpjdkmggbelfaa.PLinkNames
set_option linter.unusedVariables false
set_option linter.unusedSimpArgs false

/-- A pair of names. -/
def kp : Kd (ByteArray × ByteArray) := Kd.pair Kd.string Kd.string
theorem kp_mkM (w : World) (base : Nat) (ok : Nat → Prop) (a b : ByteArray) : kp.M w base ok (a, b) [.string a, .string b] := ⟨[.string a], [.string b], rfl, rfl, rfl⟩
theorem info64 : (Try.prog.info? 64).map (fun i => (i.zero, i.size, i.bytes)) = some (some (.agg #[.string ⟨#[]⟩, .string ⟨#[]⟩]), 2, 32) := by kernel_rfl
def two (x : S63) : ByteArray × ByteArray := (x.f0, x.f1)
def pairs (l : List S63) : List (ByteArray × ByteArray) := l.map two
theorem pairs_len (l : List S63) : (pairs l).length = l.length := List.length_map ..
theorem pairs_take (l : List S63) (i : Nat) (h : i < l.length) : pairs (l.take (i + 1)) = pairs (l.take i) ++ [two (rd_T63 l (i : Int))] := by
  unfold pairs
  rw [List.take_succ_eq_append_getElem h, List.map_append]
  congr 1
  simp [rd_T63, List.getD_eq_getElem?_getD, List.getElem?_eq_getElem h]
def NamesPost (w : World) (l : List S63) (e : Ending) (w' : World) : Prop := ∃ v, e = .returned v ∧ kp.R 64 w' w.heap.size (fun _ => True) v (pairs l) ∧ Below w.heap.size w w'
set_option maxRecDepth 100000 in
set_option maxHeartbeats 4000000 in
theorem Names_calls (w : World) (A0 : Option Addr) (c0 : Nat) (l0 : List S34) (A1 : Option Addr) (c1 : Nat) (l1 : List S63) (A2 : Option Addr) (c2 : Nat) (l2 : List S151) (A3 : Option Addr) (c3 : Nat) (l3 : List S37) (A4 : Option Addr) (c4 : Nat) (l4 : List S37) (A5 : Option Addr) (c5 : Nat) (l5 : List S154) (A6 : Option Addr) (c6 : Nat) (l6 : List S188) (m7 : Bool) (m8 : Int) (A9 : Option Addr) (c9 : Nat) (l9 : List S190) (A10 : Option Addr) (c10 : Nat) (l10 : List S192)
    (hr1 : Kd.C k63 w A1 l1.length l1) (hl : l1.length ≤ 50) :
    Calls Try.prog 20 #[.agg #[.slice A0 l0.length c0, .slice A1 l1.length c1, .slice A2 l2.length c2, .slice A3 l3.length c3, .slice A4 l4.length c4, .slice A5 l5.length c5, .slice A6 l6.length c6, .bool m7, .int .u32 m8, .slice A9 l9.length c9, .slice A10 l10.length c10]] w (NamesPost w l1) := by
  have hu58 := Try.underlying58
  have hu63 := Try.underlying63
  have HR := Aside0.mk hr1
  have HL := Aside0.mk hl
  clear hr1 hl
  have HB0 := Aside0.mk (below_alloc (Below.refl w.heap.size w) (.cells #[.slice A0 l0.length c0, .slice A1 l1.length c1, .slice A2 l2.length c2, .slice A3 l3.length c3, .slice A4 l4.length c4, .slice A5 l5.length c5, .slice A6 l6.length c6, .bool m7, .int .u32 m8, .slice A9 l9.length c9, .slice A10 l10.length c10] 58))
  go_enter Try.func20, Try.ntmps20
  go_wp2
  go_loopg [3, 9] l1.length (fun d v3 v9 w' => ∃ (i : Nat), v9 = .int .i64 (i : Int) ∧ Aside0 (i + d = l1.length) ∧ Aside0 (kp.R 64 w' w.heap.size (fun _ => True) v3 (pairs (l1.take i))) ∧ Aside0 (Below w.heap.size w w'))
  case atStart => exact ⟨0, rfl, ⟨by omega⟩, ⟨Kd.R_nil kp 64 _ _ _⟩, HB0⟩
  case round =>
    clear HB0
    obtain ⟨i, rfl, HI, HO, HB⟩ := hrel
    cases gk with
    | zero =>
      have hi : i = l1.length := by have := HI.out; omega
      subst hi
      go_wp2
      go_ret
      refine ⟨_, rfl, ?_, HB.out⟩
      have := HO.out
      rw [List.take_length] at this
      exact this
    | succ d =>
      have hi : i < l1.length := by have := HI.out; omega
      have hi1 : (i : Int) < (l1.length : Int) := by omega
      have hm : (l1.length : Int) ≤ 50 := by have := HL.out; omega
      obtain ⟨ad, e1, x0, x1, x2, x3, x4, x5, x6, x7, x8⟩ := at_T63 HR.out (i : Int) (by omega) (by omega)
      subst e1
      obtain ⟨X, hX⟩ : ∃ X, X = rd_T63 l1 (i : Int) := ⟨_, rfl⟩
      rw [← hX] at x0 x1 x2 x3 x4 x5 x6 x7 x8
      have HX := Aside0.mk hX
      clear hX
      replace x0 := (HB.out.cell (World.block_lt_of_cell? w _ x0)).trans x0
      replace x1 := (HB.out.cell (World.block_lt_of_cell? w _ x1)).trans x1
      replace x2 := (HB.out.cell (World.block_lt_of_cell? w _ x2)).trans x2
      replace x3 := (HB.out.cell (World.block_lt_of_cell? w _ x3)).trans x3
      replace x4 := (HB.out.cell (World.block_lt_of_cell? w _ x4)).trans x4
      replace x5 := (HB.out.cell (World.block_lt_of_cell? w _ x5)).trans x5
      replace x6 := (HB.out.cell (World.block_lt_of_cell? w _ x6)).trans x6
      replace x7 := (HB.out.cell (World.block_lt_of_cell? w _ x7)).trans x7
      replace x8 := (HB.out.cell (World.block_lt_of_cell? w _ x8)).trans x8
      simp only [Int.toNat_natCast] at x0 x1 x2 x3 x4 x5 x6 x7 x8
      have LM : ((pairs (l1.take i)).length + 1) * 32 ≤ 140737488355328 := by rw [pairs_len, List.length_take]; omega
      have LM := Aside0.mk LM
      go_wp2_with (first | (at_builtin; refine Kd.R_append kp (w0 := w) w.heap.size rfl (.tmp 13) (.tmp 19) 60 64 (.agg #[.string ⟨#[]⟩, .string ⟨#[]⟩]) 32 rfl Try.underlying60 info64 rfl (by decide) (by omega) u3 (pairs (l1.take i)) (X.f0, X.f1) [.string X.f0, .string X.f1] (fun _ => True) (fun _ => False) rfl ?aX (kp_mkM _ _ _ _ _) (fun _ h => h.elim) (fun _ _ => trivial) ?aO ?aB ?aS ?aL ?_; (case aX => rw [World.size_alloc]; rfl); (case aO => exact Kd.R_below HO.out (below_alloc (Below.refl _ _) _)); (case aB => exact below_alloc HB.out _); (case aS => exact (below_alloc HB.out _).size); (case aL => exact LM.out); intro v1 w1 ho hb _ _; have HO1 := Aside0.mk ho; have HB1 := Aside0.mk hb; clear ho hb HO HB LM) | fail)
      go_roundg d
      case measure => omega
      case rel => exact ⟨i + 1, by simp, ⟨by have := HI.out; omega⟩, ⟨by rw [pairs_take l1 i hi, ← HX.out]; exact HO1.out⟩, HB1⟩
end Go.Proofs.Ytkpjdkmggbelfaa.Names
