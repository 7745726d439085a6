/- The walks of Label and Close of operand's stack. -/
import Derived.Test.YtkpjdkmggbelfaaOpPop
import Derived.Outline
import Derived.Deep.RegionLaw
namespace Go.Proofs.Ytkpjdkmggbelfaa.Operand
open Go.RowKit Go.Proofs.YtkpjdkmggbelfaaW.PrintWords Go.Proofs.YtkpjdkmggbelfaaW.PrintLast Go.Proofs.YtkpjdkmggbelfaaW.PrintMore Go.Proofs.Ytkpjdkmggbelfaa.Mem
set_option linter.unusedVariables false
set_option linter.unusedSimpArgs false
def LabelPost (w : World) (r : List Int × Bool) (e : Ending) (w' : World) : Prop := ∃ v, e = .returned (.tuple #[v, .bool r.2]) ∧ Loose w' 5 1 v r.1.length (nums .u8 r.1) ∧ (∀ b, v.ownBlock = some b → w.heap.size ≤ b) ∧ Below w.heap.size w w'
theorem i64_is {n : Int} (h0 : -9223372036854775808 ≤ n) (h1 : n ≤ 9223372036854775807) : IntKind.i64.wrap n = n := by
  rw [IntKind.wrap_i64]
  omega
theorem label_rev (fs : List Fr) (k j : Nat) (h : fs.length = j + 1 + k) (f : Fr) (hf : fs[j]? = some f) : fs.reverse.getD k ⟨[], [], [], false⟩ = f := by
  rw [List.getD_eq_getElem?_getD, List.getElem?_reverse (by omega), show fs.length - 1 - k = j by omega, hf]
  rfl
set_option maxRecDepth 100000 in
set_option maxHeartbeats 4000000 in
theorem Label_calls (base : Nat) (w : World) (g : Nat) (tag : Nat → Nat) (fs : List Fr) (v : Value) (cells : List Value) (h : Stk base w g tag fs v cells) (hs : Small 1000000 fs) (n : Int) (hn0 : 0 ≤ n) (hn1 : n < 4294967296) :
    Calls Try.prog 48 #[.pointer (some ⟨g, 0, none⟩), .int .u32 n] w (LabelPost w (labelM fs n)) := by
  obtain ⟨A, c, rfl⟩ := row_one h.row
  have HX := Aside0.mk h.box
  have c0 := h.box.c0
  have hm : (fs.length : Int) ≤ 1000000 := by have := hs.1; omega
  by_cases hlt : n < (fs.length : Int)
  · have hM : labelM fs n = ((fs.reverse.getD n.toNat ⟨[], [], [], false⟩).label, true) := if_pos hlt
    rw [hM]
    obtain ⟨k, rfl⟩ : ∃ k : Nat, n = (k : Int) := ⟨n.toNat, by omega⟩
    obtain ⟨j, hj⟩ : ∃ j : Nat, fs.length = j + 1 + k := ⟨fs.length - 1 - k, by omega⟩
    obtain ⟨f, hf⟩ : ∃ f, fs[j]? = some f := ⟨fs[j], List.getElem?_eq_getElem (by omega)⟩
    obtain ⟨A0, d0, A1, d1, vt, hF⟩ := h.at_ j f hf
    rw [Int.toNat_natCast, label_rev fs k j hj f hf]
    have hfl : f.label.length ≤ 1000000 := (hs.2 f (List.mem_of_getElem? hf)).2.1
    have hrow := h.row
    rcases hrow.2 with ⟨_, h0⟩ | ⟨b, cc, cur, he, hg, hk1, hk2, hk3, hk4⟩
    · omega
    injection he with e1 _ e3
    subst e1 e3
    have hcell : w.cell? ⟨b, j * 4, none⟩ = some (.slice A0 f.label.length d0) := loose_cell hrow (j * 4) _ hF.e0
    have CL := Aside0.mk (fun (W : World) (hW : Below w.heap.size w W) => clone_calls A0 d0 f.label W (Kd.C_below (Kd.F_now hF.r0) hW) hfl)
    have HB := Aside0.mk (below_drew (Below.refl w.heap.size w))
    have dz : decide (fs.length ≤ k) = false := decide_eq_false (by omega)
    have hw : IntKind.i64.wrap (IntKind.i64.wrap ((fs.length : Int) - 1) - IntKind.i64.wrap (k : Int)) = (j : Int) := by
      rw [i64_is (n := (fs.length : Int) - 1) (by omega) (by omega), i64_is (n := (k : Int)) (by omega) (by omega), i64_is (by omega) (by omega)]
      omega
    have hjN : j < fs.length := by omega
    have hjl : (j : Int) < (fs.length : Int) := by omega
    have hkk : (k : Int) ≤ 1000000 := by omega
    clear h hs hlt hM hj hf hF hfl hrow hg hk1 hk2 hk3 hk4 hn0 hn1
    go_enter Try.func48, Try.ntmps48
    go_wp2_with (go_at_call 71; (with_reducible refine (is_calls _ _ _ _ HX.out).mono ?_); rintro e w' ⟨rfl, rfl⟩)
    go_region_law (first
      | (go_simp
         go_wp2_with (first
           | (go_at_call 72
              (with_reducible refine (CL.out _ HB.out).mono ?_)
              rintro e1 w1 ⟨v0, rfl, hL0, hn0, hb⟩
              have L0 := Aside0.mk hL0
              have N0 := Aside0.mk hn0
              have HB0 := Aside0.mk (below_then HB.out HB.out.size hb)
              clear hb hL0 hn0)
           | fail)))
    all_goals
      go_wp2
      go_ret2
      exact ⟨v0, rfl, L0.out, (fun b hb => N0.out b hb), HB0.out⟩
  · have hM : labelM fs n = ([], false) := if_neg hlt
    rw [hM]
    have dz : decide ((fs.length : Int) ≤ n) = true := decide_eq_true (by omega)
    clear h hs hlt hM
    go_enter Try.func48, Try.ntmps48
    go_wp2_with (go_at_call 71; (with_reducible refine (is_calls _ _ _ _ HX.out).mono ?_); rintro e w' ⟨rfl, rfl⟩)
    go_ret2
    exact ⟨_, rfl, Loose.nil _ _ _, (fun b hb => by cases hb), Below.refl _ _⟩
end Go.Proofs.Ytkpjdkmggbelfaa.Operand
