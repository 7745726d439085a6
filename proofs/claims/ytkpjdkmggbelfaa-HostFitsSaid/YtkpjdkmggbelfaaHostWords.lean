/- Words that are the same are told so. -/
import Derived.Test.YtkpjdkmggbelfaaHostCalls
namespace Go.Proofs.Ytkpjdkmggbelfaa.Host
open Go.RowKit Go.Proofs.YtkpjdkmggbelfaaW.PrintWords Go.Proofs.YtkpjdkmggbelfaaW.PrintLast Go.Proofs.YtkpjdkmggbelfaaW.PrintMore Go.Proofs.Ytkpjdkmggbelfaa.Mem Go.Proofs.Ytkpjdkmggbelfaa.PHostPlays
set_option linter.unusedVariables false
set_option linter.unusedSimpArgs false
set_option maxRecDepth 100000 in
set_option maxHeartbeats 1000000 in
theorem words_same (w : World) (A B : Option Addr) (c d : Nat) (l : List Int) (hl : l.length ≤ 17592186043904) (ha : kw.C w A l.length l) (hb : kw.C w B l.length l) : Calls Try.prog 68 #[.slice A l.length c, .slice B l.length d] w fun e w' => e = .returned (.bool true) ∧ w' = w := by
  have HA := Aside0.mk ha
  have HB := Aside0.mk hb
  have HL := Aside0.mk hl
  have hu := Try.underlying78
  clear ha hb hl
  go_enter Try.func68, Try.ntmps68
  go_wp2
  go_loopg [14] l.length (fun d v14 w' => ∃ i : Nat, v14 = .int .i64 (i : Int) ∧ Aside0 (i + d = l.length) ∧ w' = w)
  case atStart => exact ⟨0, rfl, ⟨by omega⟩, rfl⟩
  case round =>
    obtain ⟨i, rfl, HD, rfl⟩ := hrel
    have hd := HD.out
    have hlen := HL.out
    cases gk with
    | zero =>
      have e1 : decide (i < l.length) = false := decide_eq_false (by omega)
      clear hd hlen
      go_wp2
      go_ret
      exact ⟨rfl, rfl⟩
    | succ d =>
      have hi : i < l.length := by omega
      have e1 : decide (i < l.length) = true := decide_eq_true hi
      have hiI : (i : Int) ≤ 140737488351232 := by omega
      have hw1 : wrap64 ((i : Int) + 1) = (i : Int) + 1 := by unfold wrap64; omega
      obtain ⟨ad, eA, x0⟩ := ReadsOf.at_ (Kd.reads_of_C (enc := Value.int .u64) (d := 0) (h1 := fun _ => rfl) HA.out) (i : Int) (by omega) (by omega)
      obtain ⟨bd, eB, y0⟩ := ReadsOf.at_ (Kd.reads_of_C (enc := Value.int .u64) (d := 0) (h1 := fun _ => rfl) HB.out) (i : Int) (by omega) (by omega)
      subst eA eB
      rw [Int.toNat_natCast] at x0 y0
      obtain ⟨X, hX⟩ : ∃ X, X = rdOf 0 l (i : Int) := ⟨_, rfl⟩
      rw [← hX] at x0 y0
      clear hX hd hlen
      go_wp2
      go_roundg d
      case measure => omega
      case rel => exact ⟨i + 1, by push_cast; rfl, ⟨by have := HD.out; omega⟩, rfl⟩
end Go.Proofs.Ytkpjdkmggbelfaa.Host
