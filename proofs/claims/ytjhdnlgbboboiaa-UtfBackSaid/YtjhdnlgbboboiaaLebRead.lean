/- The walks of leb.Uint and leb.Sint: each returns what a plain function over the bytes says. -/
import Derived.Test.YtjhdnlgbboboiaaLebScan
namespace Go.Proofs.Ytjhdnlgbboboiaa.Leb
open Go.RowKit Go.Proofs.YtjhdnlgbboboiaaW.PrintWords Go.Proofs.YtjhdnlgbboboiaaW.PrintLast Go.Proofs.YtjhdnlgbboboiaaW.PrintMore Go.Proofs.Ytjhdnlgbboboiaa.Base
set_option linter.unusedVariables false
set_option linter.unusedSimpArgs false

def two7 (k : Int) : Int := if k = 1 then 2 else if k = 2 then 4 else if k = 3 then 8 else if k = 4 then 16 else if k = 5 then 32 else 64
def LU (x lf : Int) : Bool := if 7 ≤ lf then true else decide (x < two7 lf)
def LS (x lf : Int) : Bool := if 7 ≤ lf then true else if x < 64 then decide (x < two7 lf / 2) else decide (128 - two7 lf / 2 ≤ x)
theorem lastU_calls (x lf : Int) (w : World) (x0 : 0 ≤ x) (x1 : x < 128) (l0 : 1 ≤ lf) (l1 : lf ≤ 64) :
    Calls Try.prog 44 #[.int .u8 x, .int .i64 lf] w fun e w' => e = .returned (.bool (LU x lf)) ∧ w = w' := by
  by_cases c : 7 ≤ lf
  · have e : LU x lf = true := if_pos c
    rw [e]
    clear e
    go_enter Try.func44, Try.ntmps44
    go_wp2
    go_ret
    exact ⟨rfl, rfl⟩
  · have e : LU x lf = decide (x < two7 lf) := if_neg c
    rw [e]
    clear e
    have h : lf = 1 ∨ lf = 2 ∨ lf = 3 ∨ lf = 4 ∨ lf = 5 ∨ lf = 6 := by omega
    clear c l0 l1
    rcases h with rfl | rfl | rfl | rfl | rfl | rfl
    all_goals
      go_enter Try.func44, Try.ntmps44
      go_wp2
      go_ret
      exact ⟨rfl, rfl⟩
theorem lastS_calls (x lf : Int) (w : World) (x0 : 0 ≤ x) (x1 : x < 128) (l0 : 1 ≤ lf) (l1 : lf ≤ 64) :
    Calls Try.prog 45 #[.int .u8 x, .int .i64 lf] w fun e w' => e = .returned (.bool (LS x lf)) ∧ w = w' := by
  by_cases c : 7 ≤ lf
  · have e : LS x lf = true := if_pos c
    rw [e]
    clear e
    go_enter Try.func45, Try.ntmps45
    go_wp2
    all_goals
      go_ret
      exact ⟨rfl, rfl⟩
  · have e : LS x lf = if x < 64 then decide (x < two7 lf / 2) else decide (128 - two7 lf / 2 ≤ x) := if_neg c
    rw [e]
    clear e
    have h : lf = 1 ∨ lf = 2 ∨ lf = 3 ∨ lf = 4 ∨ lf = 5 ∨ lf = 6 := by omega
    clear c l0 l1
    have rb : ∀ (p q : Bool), p = q → Ending.returned (.bool p) = Ending.returned (.bool q) := fun p q h => by rw [h]
    by_cases d : x < 64
    · rw [if_pos d]
      rcases h with rfl | rfl | rfl | rfl | rfl | rfl
      all_goals
        go_enter Try.func45, Try.ntmps45
        go_wp2
        all_goals
          go_ret
          exact ⟨rfl, rfl⟩
    · rw [if_neg d]
      have d2 : 64 ≤ x := by omega
      rcases h with rfl | rfl | rfl | rfl | rfl | rfl
      all_goals
        go_enter Try.func45, Try.ntmps45
        go_wp2
        all_goals
          go_ret
          exact ⟨rb _ _ (by simp [two7]; omega), rfl⟩
theorem scanL_ok (L : Int → Int → Bool) : ∀ (l : List Int) (a n hv lf : Int), 0 ≤ hv → 0 ≤ n → n < 18446744073709551616 → hv + lf ≤ 64 →
    (scanL L l a n hv lf).2.2.2.2 ≠ 0 ∧ scanL L l a n hv lf = (0, 0, 0, 0, (scanL L l a n hv lf).2.2.2.2) ∨
    (scanL L l a n hv lf).2.2.2.2 = 0 ∧ 7 ≤ (scanL L l a n hv lf).2.1 ∧ 0 ≤ (scanL L l a n hv lf).1 ∧ (scanL L l a n hv lf).1 < 18446744073709551616
  | [], a, n, hv, lf, h, _, _, _ => .inl ⟨by simp [scanL], by simp [scanL]⟩
  | x :: xs, a, n, hv, lf, h, hn, hn1, hs => by
    have hr := seriesN_range n x hv
    unfold scanL
    split
    · split
      · exact .inr ⟨rfl, by simp only; omega, hr.1, hr.2⟩
      · exact .inl ⟨by simp, rfl⟩
    · split
      · exact .inl ⟨by simp, rfl⟩
      · exact scanL_ok L xs (a + 1) (seriesN n x hv) (hv + 7) (lf - 7) (by omega) hr.1 hr.2 (by omega)
def uintR (r : Int × Int × Int × Int × Int) : Int × Int × Int := (r.1, r.2.2.2.1, r.2.2.2.2)
def retV (r : Int × Int × Int) : Value := .tuple #[.int .u64 r.1, .int .i64 r.2.1, .int .i64 r.2.2]
theorem scan_calls (K : Nat) (L : Int → Int → Bool) (A : Option Addr) (c : Nat) (l : List Int) (a b : Int) (w : World)
    (hl : l.length ≤ 140737488355328) (hc0 : l.length ≤ c) (hr0 : Kd.C (Kd.int .u8) w A l.length l) (hok : Aside0 (okB l))
    (hcf : ∀ (x lf : Int) (w : World), Sem.run Try.prog (callFunc K #[.int .u8 x, .int .i64 lf]) w = .ok (.enter K #[.int .u8 x, .int .i64 lf]) w)
    (hL : Aside0 (∀ x lf w, 0 ≤ x → x < 128 → 1 ≤ lf → lf ≤ 64 → Calls Try.prog K #[.int .u8 x, .int .i64 lf] w fun e w' => e = .returned (.bool (L x lf)) ∧ w = w')) :
    Calls Try.prog 43 #[.slice A l.length c, .int .i64 a, .int .i64 b, .func (.func K) #[] #[]] w (ScanPost w (scanF L l a b)) := by
  by_cases h : b < 1 ∨ b > 64 ∨ a < 0 ∨ a > l.length
  · exact scan_calls_arg K L A c l a b w h
  · exact scan_calls_loop K L A c l a b w (by omega) (by omega) (by omega) (by omega) hl hc0 hr0 hok hcf hL
set_option maxRecDepth 100000 in
set_option maxHeartbeats 1000000 in
theorem Uint_calls (A : Option Addr) (c : Nat) (l : List Int) (a b : Int) (w : World)
    (hl : l.length ≤ 140737488355328) (hc0 : l.length ≤ c) (hr0 : Kd.C (Kd.int .u8) w A l.length l) (hok : okB l) :
    Calls Try.prog 24 #[.slice A l.length c, .int .i64 a, .int .i64 b] w fun e w' => e = .returned (retV (uintR (scanF LU l a b))) ∧ Below w.heap.size w w' := by
  have H := scan_calls 44 LU A c l a b w hl hc0 hr0 ⟨hok⟩ (fun x lf w => by go_simp) ⟨lastU_calls⟩
  obtain ⟨r, er⟩ : ∃ r, r = scanF LU l a b := ⟨_, rfl⟩
  rw [← er] at H ⊢
  have HC := Aside0.mk H
  clear H hr0 hok er hl hc0
  obtain ⟨r1, r2, r3, r4, r5⟩ := r
  have hu := Try.underlying75
  go_enter Try.func24, Try.ntmps24
  go_wp2_with fail
  refine HC.out.mono ?_
  rintro e w1 ⟨rfl, hb⟩
  have HB := Aside0.mk hb
  clear hb
  simp only [scanV]
  go_wp2
  go_ret3
  exact ⟨rfl, below_alloc HB.out _⟩
def sintN (n hv : Int) : Int := if hv < 64 then (if n / 2 ^ (hv.toNat - 1) % 2 = 1 then bits .or .u64 n (IntKind.u64.wrap (18446744073709551615 * 2 ^ hv.toNat)) else n) else n
def sintR (r : Int × Int × Int × Int × Int) : Int × Int × Int := if r.2.2.2.2 = 0 then (sintN r.1 r.2.1, r.2.2.2.1, 0) else (0, 0, r.2.2.2.2)
set_option maxRecDepth 100000 in
set_option maxHeartbeats 1000000 in
theorem Sint_calls (A : Option Addr) (c : Nat) (l : List Int) (a b : Int) (w : World)
    (hl : l.length ≤ 140737488355328) (hc0 : l.length ≤ c) (hr0 : Kd.C (Kd.int .u8) w A l.length l) (hok : okB l) :
    Calls Try.prog 25 #[.slice A l.length c, .int .i64 a, .int .i64 b] w fun e w' => e = .returned (retV (sintR (scanF LS l a b))) ∧ Below w.heap.size w w' := by
  have H := scan_calls 45 LS A c l a b w hl hc0 hr0 ⟨hok⟩ (fun x lf w => by go_simp) ⟨lastS_calls⟩
  have hs : (scanF LS l a b).2.2.2.2 = 0 → 7 ≤ (scanF LS l a b).2.1 ∧ 0 ≤ (scanF LS l a b).1 ∧ (scanF LS l a b).1 < 18446744073709551616 := by
    unfold scanF
    split
    · intro h; simp at h
    · intro h
      rcases scanL_ok LS (l.drop a.toNat) a 0 0 b (by omega) (by omega) (by omega) (by omega) with h1 | h1
      · exact absurd h h1.1
      · exact h1.2
  obtain ⟨r, er⟩ : ∃ r, r = scanF LS l a b := ⟨_, rfl⟩
  rw [← er] at H hs ⊢
  have HC := Aside0.mk H
  clear H hr0 hok er hl hc0
  obtain ⟨r1, r2, r3, r4, r5⟩ := r
  have hu := Try.underlying75
  simp only at hs
  by_cases c0 : r5 = 0
  · subst c0
    obtain ⟨s1, s2, s3⟩ := hs rfl
    clear hs
    have e : sintR (r1, r2, r3, r4, 0) = (sintN r1 r2, r4, 0) := if_pos rfl
    rw [e]
    clear e
    by_cases c1 : r2 < 64
    · obtain ⟨X, hX⟩ : ∃ X, r1 / 2 ^ (r2.toNat - 1) = X := ⟨_, rfl⟩
      have q0 : 0 ≤ X := by rw [← hX]; exact Int.ediv_nonneg s2 (Int.le_of_lt (Int.pow_pos (by decide)))
      have q1 : X < 18446744073709551616 := by
        have := Int.ediv_le_self (b := 2 ^ (r2.toNat - 1)) s2
        omega
      have q2 : bits .and .u64 X 1 = X % 2 := bits_mask .u64 64 (by decide) (fun n h0 h1 => by rw [IntKind.wrap_u64]; omega) 1 (by decide) X q0 q1
      by_cases c2 : X % 2 = 1
      · have e : sintN r1 r2 = bits .or .u64 r1 (IntKind.u64.wrap (18446744073709551615 * 2 ^ r2.toNat)) := by unfold sintN; rw [if_pos c1, hX, if_pos c2]
        rw [e]
        clear e
        have d2 : (X % 2 == 1) = true := by rw [c2]; rfl
        clear c2
        have d1 : decide (r2 < 64) = true := decide_eq_true c1
        have g1 : 0 ≤ r2 - 1 := by omega
        have g2 : 0 ≤ r2 := by omega
        have g3 : 1 ≤ r2 := by omega
        go_enter Try.func25, Try.ntmps25
        go_wp2_with fail
        refine HC.out.mono ?_
        rintro e w1 ⟨rfl, hb⟩
        have HB := Aside0.mk hb
        clear hb
        simp only [scanV]
        go_wp2
        go_region
        all_goals go_wp2
        go_ret3
        exact ⟨rfl, below_drew (below_alloc HB.out _)⟩
      · have e : sintN r1 r2 = r1 := by unfold sintN; rw [if_pos c1, hX, if_neg c2]
        rw [e]
        clear e
        have d2 : (X % 2 == 1) = false := by simpa using c2
        clear c2
        have d1 : decide (r2 < 64) = true := decide_eq_true c1
        have g1 : 0 ≤ r2 - 1 := by omega
        have g2 : 0 ≤ r2 := by omega
        have g3 : 1 ≤ r2 := by omega
        go_enter Try.func25, Try.ntmps25
        go_wp2_with fail
        refine HC.out.mono ?_
        rintro e w1 ⟨rfl, hb⟩
        have HB := Aside0.mk hb
        clear hb
        simp only [scanV]
        go_wp2
        go_ret3
        exact ⟨rfl, below_alloc HB.out _⟩
    · have e : sintN r1 r2 = r1 := by unfold sintN; rw [if_neg c1]
      rw [e]
      clear e
      go_enter Try.func25, Try.ntmps25
      go_wp2_with fail
      refine HC.out.mono ?_
      rintro e w1 ⟨rfl, hb⟩
      have HB := Aside0.mk hb
      clear hb
      simp only [scanV]
      go_wp2
      go_ret3
      exact ⟨rfl, below_alloc HB.out _⟩
  · have e : sintR (r1, r2, r3, r4, r5) = (0, 0, r5) := if_neg c0
    rw [e]
    clear e hs
    have c1 : (r5 != 0) = true := by simpa using c0
    clear c0
    go_enter Try.func25, Try.ntmps25
    go_wp2_with fail
    refine HC.out.mono ?_
    rintro e w1 ⟨rfl, hb⟩
    have HB := Aside0.mk hb
    clear hb
    simp only [scanV]
    go_wp2
    go_ret3
    exact ⟨rfl, below_alloc HB.out _⟩
end Go.Proofs.Ytjhdnlgbboboiaa.Leb
