/- The walks of the reference's Take, Label, Lying, Close. -/
import Derived.Test.YtkpjdkmggbelfaaOpRefP
import Derived.BigQuiet
namespace Go.Proofs.Ytkpjdkmggbelfaa.Operand
open Go.RowKit Go.Proofs.YtkpjdkmggbelfaaW.PrintWords Go.Proofs.YtkpjdkmggbelfaaW.PrintLast Go.Proofs.YtkpjdkmggbelfaaW.PrintMore Go.Proofs.Ytkpjdkmggbelfaa.Mem
set_option linter.unusedVariables false
set_option linter.unusedSimpArgs false
def RTakeAll (base : Nat) (w : World) (g : Nat) (tag : Nat → Nat) (v : Value) (r : Int × List Fr) (e : Ending) (w' : World) : Prop := e = .returned (.int .i64 r.1) ∧ RAfterV base w g tag r.2 v w'
def RReadPost (base : Nat) (w : World) (tag : Nat → Nat) (l : List Int) (e : Ending) (w' : World) : Prop := ∃ A c, e = .returned (.slice A l.length c) ∧ Rd base w tag A c l ∧ Below w.heap.size w w'
def RLabelPost (base : Nat) (w : World) (tag : Nat → Nat) (r : List Int × Bool) (e : Ending) (w' : World) : Prop := ∃ A c, e = .returned (.tuple #[.slice A r.1.length c, .bool r.2]) ∧ Rd base w tag A c r.1 ∧ Below w.heap.size w w'
def RClosePost (base : Nat) (w : World) (g : Nat) (tag : Nat → Nat) (r : List Int × Int × List Fr) (e : Ending) (w' : World) : Prop :=
  ∃ A c, e = .returned (.tuple #[.slice A r.1.length c, .int .i64 r.2.1]) ∧ Rd base w tag A c r.1 ∧ RAfter base w g tag r.2.2 w'
section
variable (base : Nat) (w : World) (g : Nat) (tag : Nat → Nat) (fs gs : List Fr) (f : Fr) (v : Value) (cells : List Value)
set_option maxRecDepth 100000 in
set_option maxHeartbeats 4000000 in
theorem RTake_calls (h : RStk base w g tag fs v cells) (hs : Small 1000000 fs)
    (A : Option Addr) (c : Nat) (l : List Int) (ha : Args base w tag A l) (hl : l.length ≤ 1000000) :
    Calls Try.prog 79 #[.pointer (some ⟨g, 0, none⟩), .slice A l.length c] w (RTakeAll base w g tag v (takeM fs l.reverse)) := by
  have H := Aside0.mk h
  have HL := Aside0.mk hl
  have hlI : (l.length : Int) ≤ 1000000 := by omega
  have HA0 := Aside0.mk ha
  have HS0 := Aside0.mk hs
  have AF := Aside0.mk (RAfterV.same h (Below.refl _ _))
  clear h hl ha hs
  go_enter Try.func79, Try.ntmps79
  go_wp2
  go_loopg [5] l.length (fun d v5 w' => ∃ (fs1 : List Fr), v5 = .int .i64 ((d : Int) - 1) ∧ Aside0 (d ≤ l.length) ∧ Aside0 (RAfterV base w g tag fs1 v w') ∧ Aside0 (Small 1000000 fs1) ∧ Aside0 (takeM fs1 (l.take d).reverse = takeM fs l.reverse))
  case atStart => exact ⟨fs, rfl, ⟨Nat.le_refl _⟩, AF, HS0, ⟨by rw [List.take_length]⟩⟩
  case round =>
    obtain ⟨fs1, rfl, HD, HF, HS, HT⟩ := hrel
    clear AF HS0
    obtain ⟨tag1, cells1, h1, hk1, hb1, ht1, h31⟩ := HF.out
    have H1 := Aside0.mk h1
    cases gk with
    | zero =>
      have hT := HT.out
      simp only [List.take_zero, List.reverse_nil, takeM] at hT
      have HT1 := Aside0.mk hT
      clear hT HT h1 hk1 hb1 ht1 h31
      go_wp2
      go_ret
      exact ⟨by rw [← HT1.out]; rfl, by rw [← HT1.out]; exact HF.out⟩
    | succ d =>
      have hd := HD.out
      have hi : d < l.length := by omega
      have hm : (l.length : Int) ≤ 1000000 := by have := HL.out; omega
      have hi1 : (d : Int) < (l.length : Int) := by omega
      have ha1 := HA0.out.after (g := g) hb1 h31
      obtain ⟨ad, e1, hx⟩ := u8_at (Kd.F_now ha1) d hi
      subst e1
      have hT := HT.out
      rw [take_rev l d hi, takeM_cons] at hT
      obtain ⟨x, hxx⟩ : ∃ x, x = rd l (d : Int) := ⟨_, rfl⟩
      rw [← hxx] at hT hx
      clear hxx HT
      have PC := Aside0.mk (RPop_calls base wr g tag1 fs1 v cells1 h1 HS.out x)
      have HS1 := Aside0.mk (popM_small x HS.out)
      obtain ⟨p, hp⟩ : ∃ p, p = popM fs1 x := ⟨_, rfl⟩
      rw [← hp] at PC hT HS1
      obtain ⟨px, pe, pf⟩ := p
      by_cases hz : pe = 0
      · subst hz
        rw [if_pos rfl] at hT
        have HT1 := Aside0.mk hT
        have HC := Aside0.mk (show ∀ w2, RAfterV base wr g tag1 pf v w2 → RAfterV base w g tag pf v w2 from fun w2 h2 => RAfterV.then_ hk1 hb1 ht1 h31 h2)
        clear hT h1 hk1 hb1 ht1 h31 ha1 hp hd
        go_wp2_with (first
          | (go_at_call 78
             (with_reducible refine PC.out.mono ?_)
             rintro e w2 ⟨rfl, ha⟩
             have HF2 := Aside0.mk (HC.out _ ha)
             clear ha)
          | fail)
        go_roundg d
        case measure => omega
        case rel => exact ⟨pf, by simp, ⟨by omega⟩, HF2, HS1, HT1⟩
      · rw [if_neg hz] at hT
        have HT1 := Aside0.mk hT
        have dz : (pe != 0) = true := bne_iff_ne.2 hz
        have HC := Aside0.mk (show ∀ w2, RAfterV base wr g tag1 pf v w2 → RAfterV base w g tag pf v w2 from fun w2 h2 => RAfterV.then_ hk1 hb1 ht1 h31 h2)
        clear hT h1 hk1 hb1 ht1 h31 ha1 hp hd hz
        go_wp2_with (first
          | (go_at_call 78
             (with_reducible refine PC.out.mono ?_)
             rintro e w2 ⟨rfl, ha⟩
             have HF2 := Aside0.mk (HC.out _ ha)
             clear ha)
          | fail)
        go_ret
        exact ⟨by rw [← HT1.out]; rfl, by rw [← HT1.out]; exact HF2.out⟩
set_option maxRecDepth 100000 in
set_option maxHeartbeats 4000000 in
theorem RLying_calls (h : RStk base w g tag fs v cells) (hs : Small 1000000 fs) : Calls Try.prog 47 #[.pointer (some ⟨g, 0, none⟩)] w (RReadPost base w tag (lyingM fs)) := by
  rcases parted fs with rfl | ⟨gs, f, rfl⟩
  · obtain ⟨A, c, rfl, hbox⟩ := rstk_empty h
    have z0 := hbox.c0
    clear h hbox hs
    go_enter Try.func47, Try.ntmps47
    go_wp2
    go_ret
    exact ⟨_, _, rfl, Rd.nil _ _ _, Below.refl _ _⟩
  · rw [lyingM_last]
    have hm : gs.length ≤ 1000000 := by have := hs.1; simp at this; omega
    obtain ⟨b, cap, A0, c0, A1, c1, A2, c2, rfl, hL⟩ := rstk_last h
    have HL := Aside0.mk hL
    have hmI : (gs.length : Int) ≤ 1000000 := by omega
    have z0 := hL.box.c0
    have x2 := hL.x2
    have hi1 : IntKind.i64.wrap ((gs.length : Int) + 1 - 1) = (gs.length : Int) := by rw [i64_is (by omega) (by omega)]; omega
    have hi2 : IntKind.i64.wrap (gs.length : Int) = (gs.length : Int) := i64_is (by omega) (by omega)
    have hi3 : wrap64 (gs.length : Int) = (gs.length : Int) := by unfold wrap64; omega
    clear h hL hs hm
    go_enter Try.func47, Try.ntmps47
    go_wp2
    go_region
    all_goals
      go_wp2
      go_ret
      exact ⟨A2, c2, rfl, HL.out.r2, below_drew (Below.refl _ _)⟩
set_option maxRecDepth 100000 in
set_option maxHeartbeats 4000000 in
theorem RLabel_calls (h : RStk base w g tag fs v cells) (hs : Small 1000000 fs) (n : Int) (hn0 : 0 ≤ n) (hn1 : n < 4294967296) :
    Calls Try.prog 81 #[.pointer (some ⟨g, 0, none⟩), .int .u32 n] w (RLabelPost base w tag (labelM fs n)) := by
  obtain ⟨A, c, rfl⟩ := row_one h.row
  have H := Aside0.mk h
  have HS := Aside0.mk hs
  have z0 := h.box.c0
  have hm : (fs.length : Int) ≤ 1000000 := by have := hs.1; omega
  have hN := Aside0.mk (And.intro hn0 hn1)
  clear h hs hn0 hn1
  go_enter Try.func81, Try.ntmps81
  go_wp2
  go_loopg [6] fs.length (fun d v6 w' => ∃ i : Nat, v6 = .int .i64 (i : Int) ∧ w = w' ∧ Aside0 (i + d = fs.length) ∧ Aside0 ((i : Int) ≤ n))
  case atStart => exact ⟨0, rfl, rfl, ⟨by omega⟩, ⟨hN.out.1⟩⟩
  case round =>
    obtain ⟨i, rfl, rfl, HD, HI⟩ := hrel
    cases gk with
    | zero =>
      have hd := HD.out
      have hi := HI.out
      have hM := Aside0.mk (show labelM fs n = ([], false) from if_neg (by omega))
      have e1 : decide (i < fs.length) = false := decide_eq_false (by omega)
      clear hd hi
      go_wp2
      go_ret2
      rw [hM.out]
      exact ⟨_, _, rfl, Rd.nil _ _ _, Below.refl _ _⟩
    | succ d =>
      have hd := HD.out
      have hi := HI.out
      have hlt : (i : Int) < (fs.length : Int) := by omega
      have e1 : decide (i < fs.length) = true := decide_eq_true (by omega)
      have hiI : (i : Int) ≤ 1000000 := by omega
      have e0 : IntKind.u32.wrap (i : Int) = (i : Int) := by rw [IntKind.wrap_u32]; omega
      by_cases hc : (i : Int) = n
      · subst hc
        obtain ⟨j, hj⟩ : ∃ j : Nat, fs.length = j + 1 + i := ⟨fs.length - 1 - i, by omega⟩
        obtain ⟨f, hf⟩ : ∃ f, fs[j]? = some f := ⟨fs[j], List.getElem?_eq_getElem (by omega)⟩
        obtain ⟨A0, d0, A1, d1, A2, d2, hF⟩ := H.out.at_ j f hf
        have hM := Aside0.mk (show labelM fs (i : Int) = (f.label, true) from (if_pos hlt).trans (by rw [Int.toNat_natCast, label_rev fs i j hj f hf]))
        have hrow := H.out.row
        rcases hrow.2 with ⟨_, h0⟩ | ⟨b, cc, cur, he, hg, hk1, hk2, hk3, hk4⟩
        · omega
        injection he with e1 _ e3
        subst e1 e3
        have hcell : w.cell? ⟨b, j * 4, none⟩ = some (.slice A0 f.label.length d0) := loose_cell hrow (j * 4) _ hF.e0
        have HF := Aside0.mk hF.r0
        have hw : IntKind.i64.wrap (IntKind.i64.wrap ((fs.length : Int) - 1) - (i : Int)) = (j : Int) := by
          rw [i64_is (n := (fs.length : Int) - 1) (by omega) (by omega), i64_is (by omega) (by omega)]
          omega
        have hw' : IntKind.i64.wrap (IntKind.i64.wrap ((fs.length : Int) - 1) - IntKind.i64.wrap (i : Int)) = (j : Int) := by
          rw [i64_is (n := (i : Int)) (by omega) (by omega)]; exact hw
        have hjN : j < fs.length := by omega
        have hjl : (j : Int) < (fs.length : Int) := by omega
        clear hd hi hf hF hrow hg hk1 hk2 hk3 hk4
        go_wp2
        go_region
        all_goals
          go_wp2
          go_ret2
          rw [hM.out]
          exact ⟨A0, d0, rfl, HF.out, below_drew (Below.refl _ _)⟩
      · have e2 : ((i : Int) == n) = false := beq_eq_false_iff_ne.2 hc
        have HI2 := Aside0.mk (show (((i + 1 : Nat) : Int)) ≤ n by omega)
        clear hi hc
        go_wp2
        go_roundg d
        case measure => omega
        case rel => exact ⟨i + 1, by push_cast; rfl, rfl, ⟨by have := HD.out; omega⟩, HI2⟩
end
end Go.Proofs.Ytkpjdkmggbelfaa.Operand
