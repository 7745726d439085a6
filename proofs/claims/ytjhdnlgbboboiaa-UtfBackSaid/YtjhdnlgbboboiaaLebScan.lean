/- The walk of leb.scan: it returns what a plain function over the bytes says. -/
import Derived.Test.YtjhdnlgbboboiaaLebTake
namespace Go.Proofs.Ytjhdnlgbboboiaa.Leb
open Go.RowKit Go.Proofs.YtjhdnlgbboboiaaW.PrintWords Go.Proofs.YtjhdnlgbboboiaaW.PrintLast Go.Proofs.YtjhdnlgbboboiaaW.PrintMore Go.Proofs.Ytjhdnlgbboboiaa.Base
set_option linter.unusedVariables false
set_option linter.unusedSimpArgs false

def scanL (L : Int → Int → Bool) : List Int → Int → Int → Int → Int → Int × Int × Int × Int × Int
  | [], at_, n, hv, lf => (0, 0, 0, 0, 100)
  | x :: xs, at_, n, hv, lf =>
    if x < 128 then
      if L x lf = true then (seriesN n x hv, hv + 7, lf - 7, at_ + 1, 0) else (0, 0, 0, 0, 101)
    else if lf ≤ 7 then (0, 0, 0, 0, 101)
    else scanL L xs (at_ + 1) (seriesN n x hv) (hv + 7) (lf - 7)
def scanF (L : Int → Int → Bool) (l : List Int) (a b : Int) : Int × Int × Int × Int × Int :=
  if b < 1 ∨ b > 64 ∨ a < 0 ∨ a > l.length then (0, 0, 0, 0, 2) else scanL L (l.drop a.toNat) a 0 0 b
def scanV (r : Int × Int × Int × Int × Int) : Value := .tuple #[.agg #[.int .u64 r.1, .int .i64 r.2.1, .int .i64 r.2.2.1], .int .i64 r.2.2.2.1, .int .i64 r.2.2.2.2]
def okB (l : List Int) : Prop := ∀ x ∈ l, 0 ≤ x ∧ x < 256
def ScanPost (w : World) (r : Int × Int × Int × Int × Int) (e : Ending) (w' : World) : Prop := e = .returned (scanV r) ∧ Below w.heap.size w w'
theorem seriesN_range (n x hv : Int) : 0 ≤ seriesN n x hv ∧ seriesN n x hv < 18446744073709551616 := by
  unfold seriesN bits
  simp only [IntKind.wrap_u64]
  omega
theorem Series.set3 {w : World} {g : Nat} {n hv lf : Int} (h : Series w g n hv lf) (x y z : Int) : Series (((w.setCell ⟨g, 0, none⟩ (.int .u64 x)).setCell ⟨g, 1, none⟩ (.int .i64 y)).setCell ⟨g, 2, none⟩ (.int .i64 z)) g x y z := ((h.s0 _).s1 _).s2 _
theorem below3 {B g : Nat} {w W : World} (h : Below B w W) (hg : B ≤ g) (x y z : Value) : Below B w (((W.setCell ⟨g, 0, none⟩ x).setCell ⟨g, 1, none⟩ y).setCell ⟨g, 2, none⟩ z) := bset (bset (bset h hg _ _) hg _ _) hg _ _
theorem drop_cons (m : List Int) (i : Nat) (h : i < m.length) : m.drop i = rd m (i : Int) :: m.drop (i + 1) := by
  rw [List.drop_eq_getElem_cons h]
  simp [rd, h]
set_option maxRecDepth 100000 in
set_option maxHeartbeats 1000000 in
theorem scan_calls_arg (K : Nat) (L : Int → Int → Bool) (A : Option Addr) (c : Nat) (l : List Int) (a b : Int) (w : World) (h : b < 1 ∨ b > 64 ∨ a < 0 ∨ a > l.length) :
    Calls Try.prog 43 #[.slice A l.length c, .int .i64 a, .int .i64 b, .func (.func K) #[] #[]] w (ScanPost w (scanF L l a b)) := by
  have e : scanF L l a b = (0, 0, 0, 0, 2) := if_pos h
  rw [e]
  clear e
  have HF : ∀ w', Below w.heap.size w w' → ScanPost w (0, 0, 0, 0, 2) (.returned (.tuple #[.agg #[.int .u64 0, .int .i64 0, .int .i64 0], .int .i64 0, .int .i64 2])) w' := fun w' hb => ⟨rfl, hb⟩
  have HF' := Aside0.mk HF
  clear HF
  have hu := Try.underlying75
  have fin : ∀ (tm : Array Value) (w' : World), (results Try.f43 tm).run Try.prog w' = .ok (.tuple #[.agg #[.int .u64 0, .int .i64 0, .int .i64 0], .int .i64 0, .int .i64 2]) w' → Below w.heap.size w w' → bodyPost Try.prog Try.f43 (ScanPost w (0, 0, 0, 0, 2)) Exit.ret { tmps := tm, defers := [] } w' :=
    fun tm w' hr hb => bodyPost_ret hr rfl ⟨rfl, hb⟩
  have FIN := Aside0.mk fin
  clear fin HF'
  by_cases c1 : b < 1
  · clear h
    go_enter Try.func43, Try.ntmps43
    go_wp2
    refine FIN.out _ _ (by simp [results, Try.results43, go_sem]) ?_
    exact (Below.refl _ _).alloc (Nat.le_refl _) _
  by_cases c2 : b > 64
  · clear h
    go_enter Try.func43, Try.ntmps43
    go_wp2
    refine FIN.out _ _ (by simp [results, Try.results43, go_sem]) ?_
    exact (Below.refl _ _).alloc (Nat.le_refl _) _
  by_cases c3 : a < 0
  · clear h
    go_enter Try.func43, Try.ntmps43
    go_wp2
    refine FIN.out _ _ (by simp [results, Try.results43, go_sem]) ?_
    exact (Below.refl _ _).alloc (Nat.le_refl _) _
  · have c4 : a > (l.length : Int) := by omega
    clear h
    go_enter Try.func43, Try.ntmps43
    go_wp2
    refine FIN.out _ _ (by simp [results, Try.results43, go_sem]) ?_
    exact (Below.refl _ _).alloc (Nat.le_refl _) _
set_option maxRecDepth 100000 in
set_option maxHeartbeats 1000000 in
theorem scan_calls_loop (K : Nat) (L : Int → Int → Bool) (A : Option Addr) (c : Nat) (l : List Int) (a b : Int) (w : World) (b1 : 1 ≤ b) (b2 : b ≤ 64) (a1 : 0 ≤ a) (a2 : a ≤ l.length)
    (hl : l.length ≤ 140737488355328) (hc0 : l.length ≤ c) (hr0 : Kd.C (Kd.int .u8) w A l.length l) (hok : Aside0 (okB l))
    (hcf : ∀ (x lf : Int) (w : World), Sem.run Try.prog (callFunc K #[.int .u8 x, .int .i64 lf]) w = .ok (.enter K #[.int .u8 x, .int .i64 lf]) w)
    (hL : Aside0 (∀ x lf w, 0 ≤ x → x < 128 → 1 ≤ lf → lf ≤ 64 → Calls Try.prog K #[.int .u8 x, .int .i64 lf] w fun e w' => e = .returned (.bool (L x lf)) ∧ w = w')) :
    Calls Try.prog 43 #[.slice A l.length c, .int .i64 a, .int .i64 b, .func (.func K) #[] #[]] w (ScanPost w (scanF L l a b)) := by
  have e : scanF L l a b = scanL L (l.drop a.toNat) a 0 0 b := if_neg (by omega)
  rw [e]
  clear e
  obtain ⟨A', hcut, hrd, hc'⟩ := bytes_drop A c l a a1 a2 hc0
  have hrd' := hrd w hr0
  have HRD := Aside0.mk hrd'
  have hlen : (l.drop a.toNat).length = l.length - a.toNat := List.length_drop
  have HLEN := Aside0.mk hlen
  have hokd : okB (l.drop a.toNat) := fun x hx => hok.out x (List.mem_of_mem_drop hx)
  have HOK := Aside0.mk hokd
  clear hlen hrd hrd' hok hr0 hokd
  have hu := Try.underlying75
  have d1 : decide (b < 1) = false := decide_eq_false (by omega)
  have d2 : decide (64 < b) = false := decide_eq_false (by omega)
  have d3 : decide (a < 0) = false := decide_eq_false (by omega)
  have d4 : decide ((l.length : Int) < a) = false := decide_eq_false (by omega)
  obtain ⟨m, hm⟩ : ∃ m, m = (l.drop a.toNat) := ⟨_, rfl⟩
  rw [← hm] at HRD HLEN HOK hcut hc' ⊢
  clear hm
  go_enter Try.func43, Try.ntmps43
  go_wp2
  have S0 : Series (w.alloc (.cells #[.int .u64 0, .int .i64 0, .int .i64 b] 75)) w.heap.size 0 0 b := heap_alloc_new w _
  have HS0 := Aside0.mk S0
  have HB0 := Aside0.mk ((Below.refl w.heap.size w).alloc (Nat.le_refl _) (.cells #[.int .u64 0, .int .i64 0, .int .i64 b] 75))
  clear S0 d1 d2 d3 d4 hcut
  go_loopg [1, 36] m.length (fun d v1 v36 w' => ∃ (i : Nat) (n hv lf : Int), v1 = .int .i64 (a + (i : Int)) ∧ v36 = .int .i64 (i : Int) ∧ Aside0 (i + d = m.length) ∧ Aside0 (Series w' w.heap.size n hv lf) ∧ Aside0 (0 ≤ n ∧ n < 18446744073709551616 ∧ 0 ≤ hv ∧ 1 ≤ lf ∧ hv + lf = b) ∧ Aside0 (scanL L (m.drop i) (a + (i : Int)) n hv lf = scanL L m a 0 0 b) ∧ Aside0 (Below w.heap.size w w'))
  case atStart => exact ⟨0, 0, 0, b, by simp, rfl, ⟨by omega⟩, HS0, ⟨by omega⟩, ⟨by simp⟩, HB0⟩
  case round =>
    obtain ⟨i, n, hv, lf, rfl, rfl, HI, HS, HN, HA, HB⟩ := hrel
    clear HS0 HB0
    have s0 := HS.out.c0
    have s1 := HS.out.c1
    have s2 := HS.out.c2
    have f0 := HS.out.fz 0
    have f1 := HS.out.fz 1
    have f2 := HS.out.fz 2
    cases gk with
    | zero =>
      have hi : i = m.length := by have := HI.out; omega
      have hd : m.drop i = [] := List.drop_eq_nil_of_le (by omega)
      have hA := HA.out
      rw [hd] at hA
      simp only [scanL] at hA
      have HA' := Aside0.mk hA
      clear hA hd HA
      subst hi
      go_wp2
      have HS1 := HS.out.set3 0 0 0
      have c0 := HS1.c0
      have c1 := HS1.c1
      have c2 := HS1.c2
      refine bodyPost_ret (v := scanV (0, 0, 0, 0, 100)) (by simp [results, Try.results43, go_sem, c0, c1, c2, scanV]) rfl ?_
      exact ⟨by rw [HA'.out], below3 HB.out (Nat.le_refl _) _ _ _⟩
    | succ d =>
      have hi : i < m.length := by have := HI.out; omega
      have hd := drop_cons m i hi
      have hA := HA.out
      rw [hd] at hA
      simp only [scanL] at hA
      have hx := HOK.out (rd m (i : Int)) (by simp [rd, hi])
      obtain ⟨ad, hAd, hcell⟩ := bytes_at HRD.out (i : Int) (by omega) (by omega)
      subst hAd
      have hadlt := World.block_lt_of_cell? w _ hcell
      have hcell1 := (HB.out.cell hadlt).trans hcell
      clear hcell HA hd hadlt
      have x0 := hx.1
      have x1 := hx.2
      clear hx
      obtain ⟨x, ex⟩ : ∃ x, x = rd m (i : Int) := ⟨_, rfl⟩
      rw [← ex] at hA hcell1 x0 x1
      clear ex
      simp only [Int.toNat_natCast] at hcell1
      have HA := Aside0.mk hA
      clear hA
      have hi1 : (i : Int) < (m.length : Int) := by omega
      have hml : (m.length : Int) ≤ 140737488355328 := by have := HLEN.out; omega
      obtain ⟨n0, n1, h0, l0, hb⟩ := HN.out
      have HBB := Aside0.mk hb
      have h64 : hv < 64 := by omega
      have l64 : lf ≤ 64 := by omega
      clear hb HN
      by_cases c1 : x < 128
      · have hA := HA.out
        rw [if_pos c1] at hA
        have e1 : decide (x < 128) = true := decide_eq_true c1
        have e2 : decide (128 ≤ x) = false := decide_eq_false (by omega)
        by_cases c2 : L x lf = true
        · rw [if_pos c2] at hA
          have HA1 := Aside0.mk hA
          clear hA HA
          go_wp2_with fail
          refine (hL.out x lf wr x0 c1 l0 l64).mono ?_
          rintro e w1 ⟨rfl, rfl⟩
          go_wp2_with fail
          refine (take_calls w.heap.size n hv lf x wr HS.out n0 n1 x0 x1 h0 h64 (by omega) l64).mono ?_
          rintro e w1 ⟨rfl, hb1, hs1⟩
          have HS1 := Aside0.mk hs1
          have HB1 := Aside0.mk ((HB.out.mono (Nat.le_refl _)).trans hb1)
          have t0 := hs1.c0
          have t1 := hs1.c1
          have t2 := hs1.c2
          have g0 := hs1.fz 0
          have g1 := hs1.fz 1
          have g2 := hs1.fz 2
          clear hb1 hs1 s0 s1 s2 f0 f1 f2
          go_wp2
          have HS2 := HS1.out.set3 (seriesN n x hv) (hv + 7) (lf - 7)
          have q0 := HS2.c0
          have q1 := HS2.c1
          have q2 := HS2.c2
          refine bodyPost_ret (v := scanV (seriesN n x hv, hv + 7, lf - 7, a + (i : Int) + 1, 0)) (by simp [results, Try.results43, go_sem, q0, q1, q2, scanV]) rfl ?_
          exact ⟨by rw [← HA1.out], below3 HB1.out (Nat.le_refl _) _ _ _⟩
        · rw [if_neg c2] at hA
          have c2' : L x lf = false := by simpa using c2
          clear c2
          have HA1 := Aside0.mk hA
          clear hA HA
          go_wp2_with fail
          refine (hL.out x lf wr x0 c1 l0 l64).mono ?_
          rintro e w1 ⟨rfl, rfl⟩
          go_wp2
          have HS1 := HS.out.set3 0 0 0
          have q0 := HS1.c0
          have q1 := HS1.c1
          have q2 := HS1.c2
          refine bodyPost_ret (v := scanV (0, 0, 0, 0, 101)) (by simp [results, Try.results43, go_sem, q0, q1, q2, scanV]) rfl ?_
          exact ⟨by rw [← HA1.out], below3 HB.out (Nat.le_refl _) _ _ _⟩
      · have hA := HA.out
        rw [if_neg c1] at hA
        have e1 : decide (x < 128) = false := decide_eq_false c1
        have e2 : decide (128 ≤ x) = true := decide_eq_true (by omega)
        by_cases c2 : lf ≤ 7
        · rw [if_pos c2] at hA
          have HA1 := Aside0.mk hA
          clear hA HA
          have e3 : decide (lf ≤ 7) = true := decide_eq_true c2
          go_wp2
          have HS1 := HS.out.set3 0 0 0
          have q0 := HS1.c0
          have q1 := HS1.c1
          have q2 := HS1.c2
          refine bodyPost_ret (v := scanV (0, 0, 0, 0, 101)) (by simp [results, Try.results43, go_sem, q0, q1, q2, scanV]) rfl ?_
          exact ⟨by rw [← HA1.out], below3 HB.out (Nat.le_refl _) _ _ _⟩
        · rw [if_neg c2] at hA
          have HA1 := Aside0.mk hA
          clear hA HA
          have e3 : decide (lf ≤ 7) = false := decide_eq_false c2
          have r0 := seriesN_range n x hv
          have R0 := Aside0.mk r0
          clear r0
          go_wp2_with fail
          refine (take_calls w.heap.size n hv lf x wr HS.out n0 n1 x0 x1 h0 h64 (by omega) l64).mono ?_
          rintro e w1 ⟨rfl, hb1, hs1⟩
          have HS1 := Aside0.mk hs1
          have HB1 := Aside0.mk ((HB.out.mono (Nat.le_refl _)).trans hb1)
          have t0 := hs1.c0
          have t1 := hs1.c1
          have t2 := hs1.c2
          have g0 := hs1.fz 0
          have g1 := hs1.fz 1
          have g2 := hs1.fz 2
          clear hb1 hs1 s0 s1 s2 f0 f1 f2
          go_wp2
          go_roundg d
          case measure => omega
          case rel => exact ⟨i + 1, seriesN n x hv, hv + 7, lf - 7, by simp [Int.add_assoc], by simp, ⟨by have := HI.out; omega⟩, HS1, ⟨R0.out.1, R0.out.2, by omega, by omega, by have := HBB.out; omega⟩, ⟨by rw [← HA1.out]; simp [Int.add_assoc]⟩, HB1⟩
end Go.Proofs.Ytjhdnlgbboboiaa.Leb
