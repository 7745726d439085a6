/- The walks of leb.put, leb.PutUint and leb.PutSint: each returns the bytes that a plain function says. -/
import Derived.Test.YtjhdnlgbboboiaaBase
namespace Go.Proofs.Ytjhdnlgbboboiaa.Leb
open Go.RowKit Go.Proofs.YtjhdnlgbboboiaaW.PrintWords Go.Proofs.YtjhdnlgbboboiaaW.PrintLast Go.Proofs.YtjhdnlgbboboiaaW.PrintMore Go.Proofs.Ytjhdnlgbboboiaa.Base
set_option linter.unusedVariables false
set_option linter.unusedSimpArgs false

theorem shiftU_calls (n : Int) (w : World) (h0 : 0 ≤ n) (h1 : n < 18446744073709551616) :
    Calls Try.prog 48 #[.int .u64 n] w fun e w' => e = .returned (.int .u64 (n / 128)) ∧ w = w' := by
  go_enter Try.func48, Try.ntmps48
  go_wp2
  go_ret
  exact ⟨rfl, rfl⟩
theorem doneU_calls (n b : Int) (w : World) :
    Calls Try.prog 49 #[.int .u64 n, .int .u8 b] w fun e w' => e = .returned (.bool (n == 0)) ∧ w = w' := by
  go_enter Try.func49, Try.ntmps49
  go_wp2
  go_ret
  exact ⟨rfl, rfl⟩
def shS (n : Int) : Int := IntKind.u64.wrap (wrap64 n / 128)
theorem shiftS_calls (n : Int) (w : World) :
    Calls Try.prog 50 #[.int .u64 n] w fun e w' => e = .returned (.int .u64 (shS n)) ∧ w = w' := by
  go_enter Try.func50, Try.ntmps50
  go_wp2
  go_ret
  exact ⟨rfl, rfl⟩
def dnS (n b : Int) : Bool := if n = 0 then decide (b < 64) else if n = 18446744073709551615 then decide (64 ≤ b) else false
theorem doneS_calls (n b : Int) (w : World) :
    Calls Try.prog 51 #[.int .u64 n, .int .u8 b] w fun e w' => e = .returned (.bool (dnS n b)) ∧ w = w' := by
  have e1 : ∀ v : Bool, v = dnS n b → Ending.returned (.bool v) = Ending.returned (.bool (dnS n b)) := fun v h => by rw [h]
  by_cases c1 : n = 0
  · subst c1
    go_enter Try.func51, Try.ntmps51
    go_wp2
    all_goals
      go_ret
      exact ⟨e1 _ (by simp_all [dnS]), rfl⟩
  · go_enter Try.func51, Try.ntmps51
    go_wp2
    all_goals
      go_ret
      exact ⟨e1 _ (by simp_all [dnS]), rfl⟩
theorem or128_fin : ∀ n : Fin 128, bits .or .u8 (n.val : Int) 128 = n.val + 128 := by decide +kernel
theorem or128 (b : Int) (h0 : 0 ≤ b) (h1 : b < 128) : bits .or .u8 b 128 = b + 128 := by
  have := or128_fin ⟨b.toNat, by omega⟩
  simpa [Int.toNat_of_nonneg h0] using this
def putL (sh : Int → Int) (dn : Int → Int → Bool) : Nat → Int → List Int → Option (List Int)
  | 0, _, _ => none
  | k + 1, n, out => if dn (sh n) (n % 128) = true then some (out ++ [n % 128]) else putL sh dn k (sh n) (out ++ [n % 128 + 128])
set_option maxRecDepth 100000 in
set_option maxHeartbeats 1000000 in
theorem put_calls (k : Nat) (hk : k ≤ 1000) (n : Int) (r : List Int) (w : World) (K1 K2 : Nat) (sh : Int → Int) (dn : Int → Int → Bool)
    (hsh : Aside0 (∀ n, 0 ≤ n → n < 18446744073709551616 → 0 ≤ sh n ∧ sh n < 18446744073709551616))
    (hF : Aside0 (∀ n w, 0 ≤ n → n < 18446744073709551616 → Calls Try.prog K1 #[.int .u64 n] w fun e w' => e = .returned (.int .u64 (sh n)) ∧ w = w'))
    (hG : Aside0 (∀ n b w, Calls Try.prog K2 #[.int .u64 n, .int .u8 b] w fun e w' => e = .returned (.bool (dn n b)) ∧ w = w'))
    (hc1 : ∀ (n : Int) (w : World), Sem.run Try.prog (callFunc K1 #[.int .u64 n]) w = .ok (.enter K1 #[.int .u64 n]) w)
    (hc2 : ∀ (n b : Int) (w : World), Sem.run Try.prog (callFunc K2 #[.int .u64 n, .int .u8 b]) w = .ok (.enter K2 #[.int .u64 n, .int .u8 b]) w)
    (h0 : 0 ≤ n) (h1 : n < 18446744073709551616) (h : putL sh dn k n [] = some r) :
    Calls Try.prog 47 #[.int .u64 n, .func (.func K1) #[] #[], .func (.func K2) #[] #[]] w fun e w' => ∃ v0_ : Value, e = .returned (v0_) ∧ Kd.R (Kd.int .u8) 5 w' w.heap.size (fun _ => True) v0_ r ∧ Below w.heap.size w w' := by
  have HB := Aside0.mk (Below.refl w.heap.size w)
  have H' := Aside0.mk h
  clear h
  go_enter Try.func47, Try.ntmps47
  go_wp2
  go_loopg [0, 7] k (fun kq v0 v7 w' => ∃ (n : Int) (xs : List Int), v0 = .int .u64 n ∧ Aside0 (0 ≤ n ∧ n < 18446744073709551616) ∧ Aside0 (putL sh dn kq n xs = some r) ∧ Aside0 (kq ≤ k ∧ xs.length + kq = k) ∧ Aside0 (Kd.R (Kd.int .u8) 5 w' w.heap.size (fun _ => True) v7 xs) ∧ Aside0 (Below w.heap.size w w'))
  case atStart => exact ⟨n, [], rfl, ⟨h0, h1⟩, H', ⟨Nat.le_refl _, by simp⟩, ⟨Kd.R_nil _ _ _ _ _⟩, HB⟩
  case round =>
    clear H' h0 h1
    obtain ⟨n, xs, rfl, HN, HA, HK, HR, HB⟩ := hrel
    cases gk with
    | zero => exact absurd HA.out (by simp [putL])
    | succ k1 =>
      have H := HA.out
      clear HA
      simp only [putL] at H
      obtain ⟨n0, n1⟩ := HN.out
      obtain ⟨s0, s1⟩ := hsh.out n n0 n1
      have S0 := Aside0.mk s0
      have S1 := Aside0.mk s1
      have hkk := HK.out
      have HL : Aside0 ((xs.length + 1) * 1 ≤ 140737488355328) := ⟨by omega⟩
      have hb0 : 0 ≤ n % 128 := by omega
      have hb1 : n % 128 < 128 := by omega
      have hk1 : Aside0 (k1 ≤ k ∧ xs.length + 1 + k1 = k) := ⟨by omega⟩
      clear hkk HK
      have hand : bits .and .u64 n 127 = n % 128 := bits_mask .u64 64 (by decide) (fun n h0 h1 => by rw [IntKind.wrap_u64]; omega) 7 (by decide) n n0 n1
      have hmod : n % 128 % 256 = n % 128 := by omega
      have hor : bits .or .u8 (n % 128) 128 = n % 128 + 128 := or128 _ hb0 hb1
      go_wp2_with fail
      refine (hF.out n wr n0 n1).mono ?_
      rintro e w1 ⟨rfl, rfl⟩
      go_wp2_with fail
      refine (hG.out (sh n) (n % 128) wr).mono ?_
      rintro e w1 ⟨rfl, rfl⟩
      by_cases c : dn (sh n) (n % 128) = true
      · rw [if_pos c] at H
        obtain rfl := Option.some.inj H
        clear H
        go_wp2_with (at_builtin; refine Kd.R_append (Kd.int .u8) (w0 := w) w.heap.size rfl (.tmp 19) (.tmp 21) 22 5 (.int .u8 0) 1 rfl Try.underlying22 info5 rfl (by decide) (by omega) u7 xs (n % 128) [.int .u8 (n % 128)] (fun _ => True) (fun _ => False) rfl rfl ?aP (fun _ hk => hk.elim) ?aF ?aO ?aB ?aS ?aL ?_; (case aP => exact rfl); (case aB => exact HB.out); (case aF => exact (fun _ _ => trivial)); (case aO => exact HR.out); (case aS => exact (below_size HB.out)); (case aL => exact HL.out); intro v155 w8 ho hb hg hat; have HR1 := Aside0.mk ho; have HB1 := Aside0.mk hb; clear ho hb hg hat)
        go_ret
        exact ⟨_, rfl, HR1.out, HB1.out⟩
      · rw [if_neg c] at H
        have c' : dn (sh n) (n % 128) = false := by simpa using c
        clear c
        have H' := Aside0.mk H
        clear H
        go_wp2_with (at_builtin; refine Kd.R_append (Kd.int .u8) (w0 := w) w.heap.size rfl (.tmp 23) (.tmp 26) 22 5 (.int .u8 0) 1 rfl Try.underlying22 info5 rfl (by decide) (by omega) u7 xs (n % 128 + 128) [.int .u8 (n % 128 + 128)] (fun _ => True) (fun _ => False) rfl rfl ?aP (fun _ hk => hk.elim) ?aF ?aO ?aB ?aS ?aL ?_; (case aP => exact rfl); (case aB => exact HB.out); (case aF => exact (fun _ _ => trivial)); (case aO => exact HR.out); (case aS => exact (below_size HB.out)); (case aL => exact HL.out); intro v155 w8 ho hb hg hat; have HR1 := Aside0.mk ho; have HB1 := Aside0.mk hb; clear ho hb hg hat)
        go_roundg k1
        case measure => omega
        case rel => exact ⟨sh n, xs ++ [n % 128 + 128], rfl, ⟨S0.out, S1.out⟩, H', ⟨hk1.out.1, by have := hk1.out.2; simp; omega⟩, HR1, HB1⟩
theorem PutUint_calls (n : Int) (r : List Int) (w : World) (h0 : 0 ≤ n) (h1 : n < 18446744073709551616) (h : putL (fun n => n / 128) (fun n _ => n == 0) 100 n [] = some r) :
    Calls Try.prog 28 #[.int .u64 n] w fun e w' => ∃ v0_ : Value, e = .returned (v0_) ∧ Kd.R (Kd.int .u8) 5 w' w.heap.size (fun _ => True) v0_ r ∧ Below w.heap.size w w' := by
  have H := put_calls 100 (by omega) n r w 48 49 (fun n => n / 128) (fun n _ => n == 0) ⟨fun n h0 h1 => by omega⟩ ⟨fun n w h0 h1 => shiftU_calls n w h0 h1⟩ ⟨fun n b w => doneU_calls n b w⟩ (fun n w => by go_simp) (fun n b w => by go_simp) h0 h1 h
  have HC := Aside0.mk H
  clear H h
  go_enter Try.func28, Try.ntmps28
  go_wp2_with fail
  refine HC.out.mono ?_
  rintro e w' ⟨v, rfl, hR, hB⟩
  have HR := Aside0.mk hR
  have HB := Aside0.mk hB
  clear hR hB
  go_wp2
  go_ret
  exact ⟨_, rfl, HR.out, HB.out⟩
theorem shS_range (n : Int) : 0 ≤ shS n ∧ shS n < 18446744073709551616 := by
  unfold shS
  rw [IntKind.wrap_u64]
  omega
theorem PutSint_calls (n : Int) (r : List Int) (w : World) (h0 : 0 ≤ n) (h1 : n < 18446744073709551616) (h : putL shS dnS 100 n [] = some r) :
    Calls Try.prog 30 #[.int .u64 n] w fun e w' => ∃ v0_ : Value, e = .returned (v0_) ∧ Kd.R (Kd.int .u8) 5 w' w.heap.size (fun _ => True) v0_ r ∧ Below w.heap.size w w' := by
  have H := put_calls 100 (by omega) n r w 50 51 shS dnS ⟨fun n h0 h1 => shS_range n⟩ ⟨fun n w h0 h1 => shiftS_calls n w⟩ ⟨fun n b w => doneS_calls n b w⟩ (fun n w => by go_simp) (fun n b w => by go_simp) h0 h1 h
  have HC := Aside0.mk H
  clear H h
  go_enter Try.func30, Try.ntmps30
  go_wp2_with fail
  refine HC.out.mono ?_
  rintro e w' ⟨v, rfl, hR, hB⟩
  have HR := Aside0.mk hR
  have HB := Aside0.mk hB
  clear hR hB
  go_wp2
  go_ret
  exact ⟨_, rfl, HR.out, HB.out⟩
end Go.Proofs.Ytjhdnlgbboboiaa.Leb
