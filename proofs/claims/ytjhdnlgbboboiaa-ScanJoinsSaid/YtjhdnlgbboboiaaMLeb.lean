/- The walk of (*leb.series).take. -/
import Derived.Test.YtjhdnlgbboboiaaBase
import Derived.Lib.EndianBits
namespace Go.Proofs.Ytjhdnlgbboboiaa.Leb
open Go.RowKit Go.Proofs.YtjhdnlgbboboiaaW.PrintWords Go.Proofs.YtjhdnlgbboboiaaW.PrintLast Go.Proofs.YtjhdnlgbboboiaaW.PrintMore Go.Proofs.Ytjhdnlgbboboiaa.Base
set_option linter.unusedVariables false
set_option linter.unusedSimpArgs false

def Series (w : World) (g : Nat) (n hv lf : Int) : Prop := w.heap[g]? = some (.cells #[.int .u64 n, .int .i64 hv, .int .i64 lf] 75 (0, 0))
theorem Series.c0 {w : World} {g : Nat} {n hv lf : Int} (h : Series w g n hv lf) : w.cell? ⟨g, 0, none⟩ = some (.int .u64 n) := by unfold Series at h; simp [World.cell?, h]
theorem Series.c1 {w : World} {g : Nat} {n hv lf : Int} (h : Series w g n hv lf) : w.cell? ⟨g, 1, none⟩ = some (.int .i64 hv) := by unfold Series at h; simp [World.cell?, h]
theorem Series.c2 {w : World} {g : Nat} {n hv lf : Int} (h : Series w g n hv lf) : w.cell? ⟨g, 2, none⟩ = some (.int .i64 lf) := by unfold Series at h; simp [World.cell?, h]
theorem Series.fz {w : World} {g : Nat} {n hv lf : Int} (h : Series w g n hv lf) (j : Nat) : w.frozen? ⟨g, j, none⟩ = false := by unfold Series at h; simp [World.frozen?, h]
theorem Series.s0 {w : World} {g : Nat} {n hv lf : Int} (h : Series w g n hv lf) (u : Int) : Series (w.setCell ⟨g, 0, none⟩ (.int .u64 u)) g u hv lf := blk_put h 0 _ rfl
theorem Series.s1 {w : World} {g : Nat} {n hv lf : Int} (h : Series w g n hv lf) (u : Int) : Series (w.setCell ⟨g, 1, none⟩ (.int .i64 u)) g n u lf := blk_put h 1 _ rfl
theorem Series.s2 {w : World} {g : Nat} {n hv lf : Int} (h : Series w g n hv lf) (u : Int) : Series (w.setCell ⟨g, 2, none⟩ (.int .i64 u)) g n hv u := blk_put h 2 _ rfl
theorem Series.drew {w : World} {g : Nat} {n hv lf : Int} (h : Series w g n hv lf) : Series w.drew g n hv lf := h
def seriesN (n x hv : Int) : Int := bits .or .u64 n (IntKind.u64.wrap (x % 128 * 2 ^ hv.toNat))
set_option maxRecDepth 100000 in
set_option maxHeartbeats 1000000 in
theorem take_calls (g : Nat) (n hv lf x : Int) (w : World) (hs : Series w g n hv lf) (hn : 0 ≤ n) (hn1 : n < 18446744073709551616) (hx0 : 0 ≤ x) (hx1 : x < 256) (hh0 : 0 ≤ hv) (hh1 : hv < 64) (hl0 : 0 ≤ lf) (hl1 : lf ≤ 64) :
    Calls Try.prog 65 #[.pointer (some ⟨g, 0, none⟩), .int .u8 x] w fun e w' => e = .returned (.tuple #[]) ∧ Below g w w' ∧ Series w' g (seriesN n x hv) (hv + 7) (lf - 7) := by
  have a0 := hs.c0
  have a1 := hs.c1
  have a2 := hs.c2
  have b0 := hs.fz 0
  have b1 := hs.fz 1
  have b2 := hs.fz 2
  have HS := Aside0.mk hs
  have hand : bits .and .u8 x 127 = x % 128 := bits_mask .u8 8 (by decide) wraps_u8 7 (by decide) x hx0 hx1
  clear hs
  go_enter Try.func65, Try.ntmps65
  go_wp2
  go_region
  go_wp2
  go_end0
  refine ⟨rfl, ?_, ?_⟩
  · repeat (first | (with_reducible exact Below.refl _ _) | (with_reducible apply Below.drew) | (with_reducible refine bset ?_ (Nat.le_refl _) _ _))
  · exact ((HS.out.s0 _).s1 _).s2 _
end Go.Proofs.Ytjhdnlgbboboiaa.Leb

/- The walk of leb.scan: it returns what a plain function over the bytes says. -/
namespace Go.Proofs.Ytjhdnlgbboboiaa.Leb
open Go.RowKit Go.Proofs.YtjhdnlgbboboiaaW.PrintWords Go.Proofs.YtjhdnlgbboboiaaW.PrintLast Go.Proofs.YtjhdnlgbboboiaaW.PrintMore Go.Proofs.Ytjhdnlgbboboiaa.Base
set_option linter.unusedVariables false
set_option linter.unusedSimpArgs false

def scanL (L : Int → Int → Bool) : List Int → Int → Int → Int → Int → Int × Int × Int × Int × Int
  | [], at_, n, hv, lf => (0, 0, 0, 0, 100)
  | x :: xs, at_, n, hv, lf =>
    if x < 128 then
      if L x lf = true then (seriesN n x hv, hv + 7, lf - 7, at_ + 1, 0) else (0, 0, 0, 0, 101)
    else if lf ≤ 7 then (0, 0, 0, 0, 101)
    else scanL L xs (at_ + 1) (seriesN n x hv) (hv + 7) (lf - 7)
def scanF (L : Int → Int → Bool) (l : List Int) (a b : Int) : Int × Int × Int × Int × Int :=
  if b < 1 ∨ b > 64 ∨ a < 0 ∨ a > l.length then (0, 0, 0, 0, 2) else scanL L (l.drop a.toNat) a 0 0 b
def scanV (r : Int × Int × Int × Int × Int) : Value := .tuple #[.agg #[.int .u64 r.1, .int .i64 r.2.1, .int .i64 r.2.2.1], .int .i64 r.2.2.2.1, .int .i64 r.2.2.2.2]
def okB (l : List Int) : Prop := ∀ x ∈ l, 0 ≤ x ∧ x < 256
def ScanPost (w : World) (r : Int × Int × Int × Int × Int) (e : Ending) (w' : World) : Prop := e = .returned (scanV r) ∧ Below w.heap.size w w'
theorem seriesN_range (n x hv : Int) : 0 ≤ seriesN n x hv ∧ seriesN n x hv < 18446744073709551616 := by
  unfold seriesN bits
  simp only [IntKind.wrap_u64]
  omega
theorem Series.set3 {w : World} {g : Nat} {n hv lf : Int} (h : Series w g n hv lf) (x y z : Int) : Series (((w.setCell ⟨g, 0, none⟩ (.int .u64 x)).setCell ⟨g, 1, none⟩ (.int .i64 y)).setCell ⟨g, 2, none⟩ (.int .i64 z)) g x y z := ((h.s0 _).s1 _).s2 _
theorem below3 {B g : Nat} {w W : World} (h : Below B w W) (hg : B ≤ g) (x y z : Value) : Below B w (((W.setCell ⟨g, 0, none⟩ x).setCell ⟨g, 1, none⟩ y).setCell ⟨g, 2, none⟩ z) := bset (bset (bset h hg _ _) hg _ _) hg _ _
theorem drop_cons (m : List Int) (i : Nat) (h : i < m.length) : m.drop i = rd m (i : Int) :: m.drop (i + 1) := by
  rw [List.drop_eq_getElem_cons h]
  simp [rd, h]
set_option maxRecDepth 100000 in
set_option maxHeartbeats 1000000 in
theorem scan_calls_arg (K : Nat) (L : Int → Int → Bool) (A : Option Addr) (c : Nat) (l : List Int) (a b : Int) (w : World) (h : b < 1 ∨ b > 64 ∨ a < 0 ∨ a > l.length) :
    Calls Try.prog 43 #[.slice A l.length c, .int .i64 a, .int .i64 b, .func (.func K) #[] #[]] w (ScanPost w (scanF L l a b)) := by
  have e : scanF L l a b = (0, 0, 0, 0, 2) := if_pos h
  rw [e]
  clear e
  have HF : ∀ w', Below w.heap.size w w' → ScanPost w (0, 0, 0, 0, 2) (.returned (.tuple #[.agg #[.int .u64 0, .int .i64 0, .int .i64 0], .int .i64 0, .int .i64 2])) w' := fun w' hb => ⟨rfl, hb⟩
  have HF' := Aside0.mk HF
  clear HF
  have hu := Try.underlying75
  have fin : ∀ (tm : Array Value) (w' : World), (results Try.f43 tm).run Try.prog w' = .ok (.tuple #[.agg #[.int .u64 0, .int .i64 0, .int .i64 0], .int .i64 0, .int .i64 2]) w' → Below w.heap.size w w' → bodyPost Try.prog Try.f43 (ScanPost w (0, 0, 0, 0, 2)) Exit.ret { tmps := tm, defers := [] } w' :=
    fun tm w' hr hb => bodyPost_ret hr rfl ⟨rfl, hb⟩
  have FIN := Aside0.mk fin
  clear fin HF'
  by_cases c1 : b < 1
  · clear h
    go_enter Try.func43, Try.ntmps43
    go_wp2
    refine FIN.out _ _ (by simp [results, Try.results43, go_sem]) ?_
    exact (Below.refl _ _).alloc (Nat.le_refl _) _
  by_cases c2 : b > 64
  · clear h
    go_enter Try.func43, Try.ntmps43
    go_wp2
    refine FIN.out _ _ (by simp [results, Try.results43, go_sem]) ?_
    exact (Below.refl _ _).alloc (Nat.le_refl _) _
  by_cases c3 : a < 0
  · clear h
    go_enter Try.func43, Try.ntmps43
    go_wp2
    refine FIN.out _ _ (by simp [results, Try.results43, go_sem]) ?_
    exact (Below.refl _ _).alloc (Nat.le_refl _) _
  · have c4 : a > (l.length : Int) := by omega
    clear h
    go_enter Try.func43, Try.ntmps43
    go_wp2
    refine FIN.out _ _ (by simp [results, Try.results43, go_sem]) ?_
    exact (Below.refl _ _).alloc (Nat.le_refl _) _
set_option maxRecDepth 100000 in
set_option maxHeartbeats 1000000 in
theorem scan_calls_loop (K : Nat) (L : Int → Int → Bool) (A : Option Addr) (c : Nat) (l : List Int) (a b : Int) (w : World) (b1 : 1 ≤ b) (b2 : b ≤ 64) (a1 : 0 ≤ a) (a2 : a ≤ l.length)
    (hl : l.length ≤ 140737488355328) (hc0 : l.length ≤ c) (hr0 : Kd.C (Kd.int .u8) w A l.length l) (hok : Aside0 (okB l))
    (hcf : ∀ (x lf : Int) (w : World), Sem.run Try.prog (callFunc K #[.int .u8 x, .int .i64 lf]) w = .ok (.enter K #[.int .u8 x, .int .i64 lf]) w)
    (hL : Aside0 (∀ x lf w, 0 ≤ x → x < 128 → 1 ≤ lf → lf ≤ 64 → Calls Try.prog K #[.int .u8 x, .int .i64 lf] w fun e w' => e = .returned (.bool (L x lf)) ∧ w = w')) :
    Calls Try.prog 43 #[.slice A l.length c, .int .i64 a, .int .i64 b, .func (.func K) #[] #[]] w (ScanPost w (scanF L l a b)) := by
  have e : scanF L l a b = scanL L (l.drop a.toNat) a 0 0 b := if_neg (by omega)
  rw [e]
  clear e
  obtain ⟨A', hcut, hrd, hc'⟩ := bytes_drop A c l a a1 a2 hc0
  have hrd' := hrd w hr0
  have HRD := Aside0.mk hrd'
  have hlen : (l.drop a.toNat).length = l.length - a.toNat := List.length_drop
  have HLEN := Aside0.mk hlen
  have hokd : okB (l.drop a.toNat) := fun x hx => hok.out x (List.mem_of_mem_drop hx)
  have HOK := Aside0.mk hokd
  clear hlen hrd hrd' hok hr0 hokd
  have hu := Try.underlying75
  have d1 : decide (b < 1) = false := decide_eq_false (by omega)
  have d2 : decide (64 < b) = false := decide_eq_false (by omega)
  have d3 : decide (a < 0) = false := decide_eq_false (by omega)
  have d4 : decide ((l.length : Int) < a) = false := decide_eq_false (by omega)
  obtain ⟨m, hm⟩ : ∃ m, m = (l.drop a.toNat) := ⟨_, rfl⟩
  rw [← hm] at HRD HLEN HOK hcut hc' ⊢
  clear hm
  go_enter Try.func43, Try.ntmps43
  go_wp2
  have S0 : Series (w.alloc (.cells #[.int .u64 0, .int .i64 0, .int .i64 b] 75)) w.heap.size 0 0 b := heap_alloc_new w _
  have HS0 := Aside0.mk S0
  have HB0 := Aside0.mk ((Below.refl w.heap.size w).alloc (Nat.le_refl _) (.cells #[.int .u64 0, .int .i64 0, .int .i64 b] 75))
  clear S0 d1 d2 d3 d4 hcut
  go_loopg [1, 36] m.length (fun d v1 v36 w' => ∃ (i : Nat) (n hv lf : Int), v1 = .int .i64 (a + (i : Int)) ∧ v36 = .int .i64 (i : Int) ∧ Aside0 (i + d = m.length) ∧ Aside0 (Series w' w.heap.size n hv lf) ∧ Aside0 (0 ≤ n ∧ n < 18446744073709551616 ∧ 0 ≤ hv ∧ 1 ≤ lf ∧ hv + lf = b) ∧ Aside0 (scanL L (m.drop i) (a + (i : Int)) n hv lf = scanL L m a 0 0 b) ∧ Aside0 (Below w.heap.size w w'))
  case atStart => exact ⟨0, 0, 0, b, by simp, rfl, ⟨by omega⟩, HS0, ⟨by omega⟩, ⟨by simp⟩, HB0⟩
  case round =>
    obtain ⟨i, n, hv, lf, rfl, rfl, HI, HS, HN, HA, HB⟩ := hrel
    clear HS0 HB0
    have s0 := HS.out.c0
    have s1 := HS.out.c1
    have s2 := HS.out.c2
    have f0 := HS.out.fz 0
    have f1 := HS.out.fz 1
    have f2 := HS.out.fz 2
    cases gk with
    | zero =>
      have hi : i = m.length := by have := HI.out; omega
      have hd : m.drop i = [] := List.drop_eq_nil_of_le (by omega)
      have hA := HA.out
      rw [hd] at hA
      simp only [scanL] at hA
      have HA' := Aside0.mk hA
      clear hA hd HA
      subst hi
      go_wp2
      have HS1 := HS.out.set3 0 0 0
      have c0 := HS1.c0
      have c1 := HS1.c1
      have c2 := HS1.c2
      refine bodyPost_ret (v := scanV (0, 0, 0, 0, 100)) (by simp [results, Try.results43, go_sem, c0, c1, c2, scanV]) rfl ?_
      exact ⟨by rw [HA'.out], below3 HB.out (Nat.le_refl _) _ _ _⟩
    | succ d =>
      have hi : i < m.length := by have := HI.out; omega
      have hd := drop_cons m i hi
      have hA := HA.out
      rw [hd] at hA
      simp only [scanL] at hA
      have hx := HOK.out (rd m (i : Int)) (by simp [rd, hi])
      obtain ⟨ad, hAd, hcell⟩ := bytes_at HRD.out (i : Int) (by omega) (by omega)
      subst hAd
      have hadlt := World.block_lt_of_cell? w _ hcell
      have hcell1 := (HB.out.cell hadlt).trans hcell
      clear hcell HA hd hadlt
      have x0 := hx.1
      have x1 := hx.2
      clear hx
      obtain ⟨x, ex⟩ : ∃ x, x = rd m (i : Int) := ⟨_, rfl⟩
      rw [← ex] at hA hcell1 x0 x1
      clear ex
      simp only [Int.toNat_natCast] at hcell1
      have HA := Aside0.mk hA
      clear hA
      have hi1 : (i : Int) < (m.length : Int) := by omega
      have hml : (m.length : Int) ≤ 140737488355328 := by have := HLEN.out; omega
      obtain ⟨n0, n1, h0, l0, hb⟩ := HN.out
      have HBB := Aside0.mk hb
      have h64 : hv < 64 := by omega
      have l64 : lf ≤ 64 := by omega
      clear hb HN
      by_cases c1 : x < 128
      · have hA := HA.out
        rw [if_pos c1] at hA
        have e1 : decide (x < 128) = true := decide_eq_true c1
        have e2 : decide (128 ≤ x) = false := decide_eq_false (by omega)
        by_cases c2 : L x lf = true
        · rw [if_pos c2] at hA
          have HA1 := Aside0.mk hA
          clear hA HA
          go_wp2_with fail
          refine (hL.out x lf wr x0 c1 l0 l64).mono ?_
          rintro e w1 ⟨rfl, rfl⟩
          go_wp2_with fail
          refine (take_calls w.heap.size n hv lf x wr HS.out n0 n1 x0 x1 h0 h64 (by omega) l64).mono ?_
          rintro e w1 ⟨rfl, hb1, hs1⟩
          have HS1 := Aside0.mk hs1
          have HB1 := Aside0.mk ((HB.out.mono (Nat.le_refl _)).trans hb1)
          have t0 := hs1.c0
          have t1 := hs1.c1
          have t2 := hs1.c2
          have g0 := hs1.fz 0
          have g1 := hs1.fz 1
          have g2 := hs1.fz 2
          clear hb1 hs1 s0 s1 s2 f0 f1 f2
          go_wp2
          have HS2 := HS1.out.set3 (seriesN n x hv) (hv + 7) (lf - 7)
          have q0 := HS2.c0
          have q1 := HS2.c1
          have q2 := HS2.c2
          refine bodyPost_ret (v := scanV (seriesN n x hv, hv + 7, lf - 7, a + (i : Int) + 1, 0)) (by simp [results, Try.results43, go_sem, q0, q1, q2, scanV]) rfl ?_
          exact ⟨by rw [← HA1.out], below3 HB1.out (Nat.le_refl _) _ _ _⟩
        · rw [if_neg c2] at hA
          have c2' : L x lf = false := by simpa using c2
          clear c2
          have HA1 := Aside0.mk hA
          clear hA HA
          go_wp2_with fail
          refine (hL.out x lf wr x0 c1 l0 l64).mono ?_
          rintro e w1 ⟨rfl, rfl⟩
          go_wp2
          have HS1 := HS.out.set3 0 0 0
          have q0 := HS1.c0
          have q1 := HS1.c1
          have q2 := HS1.c2
          refine bodyPost_ret (v := scanV (0, 0, 0, 0, 101)) (by simp [results, Try.results43, go_sem, q0, q1, q2, scanV]) rfl ?_
          exact ⟨by rw [← HA1.out], below3 HB.out (Nat.le_refl _) _ _ _⟩
      · have hA := HA.out
        rw [if_neg c1] at hA
        have e1 : decide (x < 128) = false := decide_eq_false c1
        have e2 : decide (128 ≤ x) = true := decide_eq_true (by omega)
        by_cases c2 : lf ≤ 7
        · rw [if_pos c2] at hA
          have HA1 := Aside0.mk hA
          clear hA HA
          have e3 : decide (lf ≤ 7) = true := decide_eq_true c2
          go_wp2
          have HS1 := HS.out.set3 0 0 0
          have q0 := HS1.c0
          have q1 := HS1.c1
          have q2 := HS1.c2
          refine bodyPost_ret (v := scanV (0, 0, 0, 0, 101)) (by simp [results, Try.results43, go_sem, q0, q1, q2, scanV]) rfl ?_
          exact ⟨by rw [← HA1.out], below3 HB.out (Nat.le_refl _) _ _ _⟩
        · rw [if_neg c2] at hA
          have HA1 := Aside0.mk hA
          clear hA HA
          have e3 : decide (lf ≤ 7) = false := decide_eq_false c2
          have r0 := seriesN_range n x hv
          have R0 := Aside0.mk r0
          clear r0
          go_wp2_with fail
          refine (take_calls w.heap.size n hv lf x wr HS.out n0 n1 x0 x1 h0 h64 (by omega) l64).mono ?_
          rintro e w1 ⟨rfl, hb1, hs1⟩
          have HS1 := Aside0.mk hs1
          have HB1 := Aside0.mk ((HB.out.mono (Nat.le_refl _)).trans hb1)
          have t0 := hs1.c0
          have t1 := hs1.c1
          have t2 := hs1.c2
          have g0 := hs1.fz 0
          have g1 := hs1.fz 1
          have g2 := hs1.fz 2
          clear hb1 hs1 s0 s1 s2 f0 f1 f2
          go_wp2
          go_roundg d
          case measure => omega
          case rel => exact ⟨i + 1, seriesN n x hv, hv + 7, lf - 7, by simp [Int.add_assoc], by simp, ⟨by have := HI.out; omega⟩, HS1, ⟨R0.out.1, R0.out.2, by omega, by omega, by have := HBB.out; omega⟩, ⟨by rw [← HA1.out]; simp [Int.add_assoc]⟩, HB1⟩
end Go.Proofs.Ytjhdnlgbboboiaa.Leb

/- The walks of leb.Uint and leb.Sint: each returns what a plain function over the bytes says. -/
namespace Go.Proofs.Ytjhdnlgbboboiaa.Leb
open Go.RowKit Go.Proofs.YtjhdnlgbboboiaaW.PrintWords Go.Proofs.YtjhdnlgbboboiaaW.PrintLast Go.Proofs.YtjhdnlgbboboiaaW.PrintMore Go.Proofs.Ytjhdnlgbboboiaa.Base
set_option linter.unusedVariables false
set_option linter.unusedSimpArgs false

def two7 (k : Int) : Int := if k = 1 then 2 else if k = 2 then 4 else if k = 3 then 8 else if k = 4 then 16 else if k = 5 then 32 else 64
def LU (x lf : Int) : Bool := if 7 ≤ lf then true else decide (x < two7 lf)
def LS (x lf : Int) : Bool := if 7 ≤ lf then true else if x < 64 then decide (x < two7 lf / 2) else decide (128 - two7 lf / 2 ≤ x)
theorem lastU_calls (x lf : Int) (w : World) (x0 : 0 ≤ x) (x1 : x < 128) (l0 : 1 ≤ lf) (l1 : lf ≤ 64) :
    Calls Try.prog 44 #[.int .u8 x, .int .i64 lf] w fun e w' => e = .returned (.bool (LU x lf)) ∧ w = w' := by
  by_cases c : 7 ≤ lf
  · have e : LU x lf = true := if_pos c
    rw [e]
    clear e
    go_enter Try.func44, Try.ntmps44
    go_wp2
    go_ret
    exact ⟨rfl, rfl⟩
  · have e : LU x lf = decide (x < two7 lf) := if_neg c
    rw [e]
    clear e
    have h : lf = 1 ∨ lf = 2 ∨ lf = 3 ∨ lf = 4 ∨ lf = 5 ∨ lf = 6 := by omega
    clear c l0 l1
    rcases h with rfl | rfl | rfl | rfl | rfl | rfl
    all_goals
      go_enter Try.func44, Try.ntmps44
      go_wp2
      go_ret
      exact ⟨rfl, rfl⟩
theorem lastS_calls (x lf : Int) (w : World) (x0 : 0 ≤ x) (x1 : x < 128) (l0 : 1 ≤ lf) (l1 : lf ≤ 64) :
    Calls Try.prog 45 #[.int .u8 x, .int .i64 lf] w fun e w' => e = .returned (.bool (LS x lf)) ∧ w = w' := by
  by_cases c : 7 ≤ lf
  · have e : LS x lf = true := if_pos c
    rw [e]
    clear e
    go_enter Try.func45, Try.ntmps45
    go_wp2
    all_goals
      go_ret
      exact ⟨rfl, rfl⟩
  · have e : LS x lf = if x < 64 then decide (x < two7 lf / 2) else decide (128 - two7 lf / 2 ≤ x) := if_neg c
    rw [e]
    clear e
    have h : lf = 1 ∨ lf = 2 ∨ lf = 3 ∨ lf = 4 ∨ lf = 5 ∨ lf = 6 := by omega
    clear c l0 l1
    have rb : ∀ (p q : Bool), p = q → Ending.returned (.bool p) = Ending.returned (.bool q) := fun p q h => by rw [h]
    by_cases d : x < 64
    · rw [if_pos d]
      rcases h with rfl | rfl | rfl | rfl | rfl | rfl
      all_goals
        go_enter Try.func45, Try.ntmps45
        go_wp2
        all_goals
          go_ret
          exact ⟨rfl, rfl⟩
    · rw [if_neg d]
      have d2 : 64 ≤ x := by omega
      rcases h with rfl | rfl | rfl | rfl | rfl | rfl
      all_goals
        go_enter Try.func45, Try.ntmps45
        go_wp2
        all_goals
          go_ret
          exact ⟨rb _ _ (by simp [two7]; omega), rfl⟩
theorem scanL_ok (L : Int → Int → Bool) : ∀ (l : List Int) (a n hv lf : Int), 0 ≤ hv → 0 ≤ n → n < 18446744073709551616 → hv + lf ≤ 64 →
    (scanL L l a n hv lf).2.2.2.2 ≠ 0 ∧ scanL L l a n hv lf = (0, 0, 0, 0, (scanL L l a n hv lf).2.2.2.2) ∨
    (scanL L l a n hv lf).2.2.2.2 = 0 ∧ 7 ≤ (scanL L l a n hv lf).2.1 ∧ 0 ≤ (scanL L l a n hv lf).1 ∧ (scanL L l a n hv lf).1 < 18446744073709551616
  | [], a, n, hv, lf, h, _, _, _ => .inl ⟨by simp [scanL], by simp [scanL]⟩
  | x :: xs, a, n, hv, lf, h, hn, hn1, hs => by
    have hr := seriesN_range n x hv
    unfold scanL
    split
    · split
      · exact .inr ⟨rfl, by simp only; omega, hr.1, hr.2⟩
      · exact .inl ⟨by simp, rfl⟩
    · split
      · exact .inl ⟨by simp, rfl⟩
      · exact scanL_ok L xs (a + 1) (seriesN n x hv) (hv + 7) (lf - 7) (by omega) hr.1 hr.2 (by omega)
def uintR (r : Int × Int × Int × Int × Int) : Int × Int × Int := (r.1, r.2.2.2.1, r.2.2.2.2)
def retV (r : Int × Int × Int) : Value := .tuple #[.int .u64 r.1, .int .i64 r.2.1, .int .i64 r.2.2]
theorem scan_calls (K : Nat) (L : Int → Int → Bool) (A : Option Addr) (c : Nat) (l : List Int) (a b : Int) (w : World)
    (hl : l.length ≤ 140737488355328) (hc0 : l.length ≤ c) (hr0 : Kd.C (Kd.int .u8) w A l.length l) (hok : Aside0 (okB l))
    (hcf : ∀ (x lf : Int) (w : World), Sem.run Try.prog (callFunc K #[.int .u8 x, .int .i64 lf]) w = .ok (.enter K #[.int .u8 x, .int .i64 lf]) w)
    (hL : Aside0 (∀ x lf w, 0 ≤ x → x < 128 → 1 ≤ lf → lf ≤ 64 → Calls Try.prog K #[.int .u8 x, .int .i64 lf] w fun e w' => e = .returned (.bool (L x lf)) ∧ w = w')) :
    Calls Try.prog 43 #[.slice A l.length c, .int .i64 a, .int .i64 b, .func (.func K) #[] #[]] w (ScanPost w (scanF L l a b)) := by
  by_cases h : b < 1 ∨ b > 64 ∨ a < 0 ∨ a > l.length
  · exact scan_calls_arg K L A c l a b w h
  · exact scan_calls_loop K L A c l a b w (by omega) (by omega) (by omega) (by omega) hl hc0 hr0 hok hcf hL
set_option maxRecDepth 100000 in
set_option maxHeartbeats 1000000 in
theorem Uint_calls (A : Option Addr) (c : Nat) (l : List Int) (a b : Int) (w : World)
    (hl : l.length ≤ 140737488355328) (hc0 : l.length ≤ c) (hr0 : Kd.C (Kd.int .u8) w A l.length l) (hok : okB l) :
    Calls Try.prog 24 #[.slice A l.length c, .int .i64 a, .int .i64 b] w fun e w' => e = .returned (retV (uintR (scanF LU l a b))) ∧ Below w.heap.size w w' := by
  have H := scan_calls 44 LU A c l a b w hl hc0 hr0 ⟨hok⟩ (fun x lf w => by go_simp) ⟨lastU_calls⟩
  obtain ⟨r, er⟩ : ∃ r, r = scanF LU l a b := ⟨_, rfl⟩
  rw [← er] at H ⊢
  have HC := Aside0.mk H
  clear H hr0 hok er hl hc0
  obtain ⟨r1, r2, r3, r4, r5⟩ := r
  have hu := Try.underlying75
  go_enter Try.func24, Try.ntmps24
  go_wp2_with fail
  refine HC.out.mono ?_
  rintro e w1 ⟨rfl, hb⟩
  have HB := Aside0.mk hb
  clear hb
  simp only [scanV]
  go_wp2
  go_ret3
  exact ⟨rfl, below_alloc HB.out _⟩
def sintN (n hv : Int) : Int := if hv < 64 then (if n / 2 ^ (hv.toNat - 1) % 2 = 1 then bits .or .u64 n (IntKind.u64.wrap (18446744073709551615 * 2 ^ hv.toNat)) else n) else n
def sintR (r : Int × Int × Int × Int × Int) : Int × Int × Int := if r.2.2.2.2 = 0 then (sintN r.1 r.2.1, r.2.2.2.1, 0) else (0, 0, r.2.2.2.2)
set_option maxRecDepth 100000 in
set_option maxHeartbeats 1000000 in
theorem Sint_calls (A : Option Addr) (c : Nat) (l : List Int) (a b : Int) (w : World)
    (hl : l.length ≤ 140737488355328) (hc0 : l.length ≤ c) (hr0 : Kd.C (Kd.int .u8) w A l.length l) (hok : okB l) :
    Calls Try.prog 25 #[.slice A l.length c, .int .i64 a, .int .i64 b] w fun e w' => e = .returned (retV (sintR (scanF LS l a b))) ∧ Below w.heap.size w w' := by
  have H := scan_calls 45 LS A c l a b w hl hc0 hr0 ⟨hok⟩ (fun x lf w => by go_simp) ⟨lastS_calls⟩
  have hs : (scanF LS l a b).2.2.2.2 = 0 → 7 ≤ (scanF LS l a b).2.1 ∧ 0 ≤ (scanF LS l a b).1 ∧ (scanF LS l a b).1 < 18446744073709551616 := by
    unfold scanF
    split
    · intro h; simp at h
    · intro h
      rcases scanL_ok LS (l.drop a.toNat) a 0 0 b (by omega) (by omega) (by omega) (by omega) with h1 | h1
      · exact absurd h h1.1
      · exact h1.2
  obtain ⟨r, er⟩ : ∃ r, r = scanF LS l a b := ⟨_, rfl⟩
  rw [← er] at H hs ⊢
  have HC := Aside0.mk H
  clear H hr0 hok er hl hc0
  obtain ⟨r1, r2, r3, r4, r5⟩ := r
  have hu := Try.underlying75
  simp only at hs
  by_cases c0 : r5 = 0
  · subst c0
    obtain ⟨s1, s2, s3⟩ := hs rfl
    clear hs
    have e : sintR (r1, r2, r3, r4, 0) = (sintN r1 r2, r4, 0) := if_pos rfl
    rw [e]
    clear e
    by_cases c1 : r2 < 64
    · obtain ⟨X, hX⟩ : ∃ X, r1 / 2 ^ (r2.toNat - 1) = X := ⟨_, rfl⟩
      have q0 : 0 ≤ X := by rw [← hX]; exact Int.ediv_nonneg s2 (Int.le_of_lt (Int.pow_pos (by decide)))
      have q1 : X < 18446744073709551616 := by
        have := Int.ediv_le_self (b := 2 ^ (r2.toNat - 1)) s2
        omega
      have q2 : bits .and .u64 X 1 = X % 2 := bits_mask .u64 64 (by decide) (fun n h0 h1 => by rw [IntKind.wrap_u64]; omega) 1 (by decide) X q0 q1
      by_cases c2 : X % 2 = 1
      · have e : sintN r1 r2 = bits .or .u64 r1 (IntKind.u64.wrap (18446744073709551615 * 2 ^ r2.toNat)) := by unfold sintN; rw [if_pos c1, hX, if_pos c2]
        rw [e]
        clear e
        have d2 : (X % 2 == 1) = true := by rw [c2]; rfl
        clear c2
        have d1 : decide (r2 < 64) = true := decide_eq_true c1
        have g1 : 0 ≤ r2 - 1 := by omega
        have g2 : 0 ≤ r2 := by omega
        have g3 : 1 ≤ r2 := by omega
        go_enter Try.func25, Try.ntmps25
        go_wp2_with fail
        refine HC.out.mono ?_
        rintro e w1 ⟨rfl, hb⟩
        have HB := Aside0.mk hb
        clear hb
        simp only [scanV]
        go_wp2
        go_region
        all_goals go_wp2
        go_ret3
        exact ⟨rfl, below_drew (below_alloc HB.out _)⟩
      · have e : sintN r1 r2 = r1 := by unfold sintN; rw [if_pos c1, hX, if_neg c2]
        rw [e]
        clear e
        have d2 : (X % 2 == 1) = false := by simpa using c2
        clear c2
        have d1 : decide (r2 < 64) = true := decide_eq_true c1
        have g1 : 0 ≤ r2 - 1 := by omega
        have g2 : 0 ≤ r2 := by omega
        have g3 : 1 ≤ r2 := by omega
        go_enter Try.func25, Try.ntmps25
        go_wp2_with fail
        refine HC.out.mono ?_
        rintro e w1 ⟨rfl, hb⟩
        have HB := Aside0.mk hb
        clear hb
        simp only [scanV]
        go_wp2
        go_ret3
        exact ⟨rfl, below_alloc HB.out _⟩
    · have e : sintN r1 r2 = r1 := by unfold sintN; rw [if_neg c1]
      rw [e]
      clear e
      go_enter Try.func25, Try.ntmps25
      go_wp2_with fail
      refine HC.out.mono ?_
      rintro e w1 ⟨rfl, hb⟩
      have HB := Aside0.mk hb
      clear hb
      simp only [scanV]
      go_wp2
      go_ret3
      exact ⟨rfl, below_alloc HB.out _⟩
  · have e : sintR (r1, r2, r3, r4, r5) = (0, 0, r5) := if_neg c0
    rw [e]
    clear e hs
    have c1 : (r5 != 0) = true := by simpa using c0
    clear c0
    go_enter Try.func25, Try.ntmps25
    go_wp2_with fail
    refine HC.out.mono ?_
    rintro e w1 ⟨rfl, hb⟩
    have HB := Aside0.mk hb
    clear hb
    simp only [scanV]
    go_wp2
    go_ret3
    exact ⟨rfl, below_alloc HB.out _⟩
end Go.Proofs.Ytjhdnlgbboboiaa.Leb

/- The walks of leb.put, leb.PutUint and leb.PutSint: each returns the bytes that a plain function says. -/
namespace Go.Proofs.Ytjhdnlgbboboiaa.Leb
open Go.RowKit Go.Proofs.YtjhdnlgbboboiaaW.PrintWords Go.Proofs.YtjhdnlgbboboiaaW.PrintLast Go.Proofs.YtjhdnlgbboboiaaW.PrintMore Go.Proofs.Ytjhdnlgbboboiaa.Base
set_option linter.unusedVariables false
set_option linter.unusedSimpArgs false

theorem shiftU_calls (n : Int) (w : World) (h0 : 0 ≤ n) (h1 : n < 18446744073709551616) :
    Calls Try.prog 48 #[.int .u64 n] w fun e w' => e = .returned (.int .u64 (n / 128)) ∧ w = w' := by
  go_enter Try.func48, Try.ntmps48
  go_wp2
  go_ret
  exact ⟨rfl, rfl⟩
theorem doneU_calls (n b : Int) (w : World) :
    Calls Try.prog 49 #[.int .u64 n, .int .u8 b] w fun e w' => e = .returned (.bool (n == 0)) ∧ w = w' := by
  go_enter Try.func49, Try.ntmps49
  go_wp2
  go_ret
  exact ⟨rfl, rfl⟩
def shS (n : Int) : Int := IntKind.u64.wrap (wrap64 n / 128)
theorem shiftS_calls (n : Int) (w : World) :
    Calls Try.prog 50 #[.int .u64 n] w fun e w' => e = .returned (.int .u64 (shS n)) ∧ w = w' := by
  go_enter Try.func50, Try.ntmps50
  go_wp2
  go_ret
  exact ⟨rfl, rfl⟩
def dnS (n b : Int) : Bool := if n = 0 then decide (b < 64) else if n = 18446744073709551615 then decide (64 ≤ b) else false
theorem doneS_calls (n b : Int) (w : World) :
    Calls Try.prog 51 #[.int .u64 n, .int .u8 b] w fun e w' => e = .returned (.bool (dnS n b)) ∧ w = w' := by
  have e1 : ∀ v : Bool, v = dnS n b → Ending.returned (.bool v) = Ending.returned (.bool (dnS n b)) := fun v h => by rw [h]
  by_cases c1 : n = 0
  · subst c1
    go_enter Try.func51, Try.ntmps51
    go_wp2
    all_goals
      go_ret
      exact ⟨e1 _ (by simp_all [dnS]), rfl⟩
  · go_enter Try.func51, Try.ntmps51
    go_wp2
    all_goals
      go_ret
      exact ⟨e1 _ (by simp_all [dnS]), rfl⟩
theorem or128_fin : ∀ n : Fin 128, bits .or .u8 (n.val : Int) 128 = n.val + 128 := by decide +kernel
theorem or128 (b : Int) (h0 : 0 ≤ b) (h1 : b < 128) : bits .or .u8 b 128 = b + 128 := by
  have := or128_fin ⟨b.toNat, by omega⟩
  simpa [Int.toNat_of_nonneg h0] using this
def putL (sh : Int → Int) (dn : Int → Int → Bool) : Nat → Int → List Int → Option (List Int)
  | 0, _, _ => none
  | k + 1, n, out => if dn (sh n) (n % 128) = true then some (out ++ [n % 128]) else putL sh dn k (sh n) (out ++ [n % 128 + 128])
set_option maxRecDepth 100000 in
set_option maxHeartbeats 1000000 in
theorem put_calls (k : Nat) (hk : k ≤ 1000) (n : Int) (r : List Int) (w : World) (K1 K2 : Nat) (sh : Int → Int) (dn : Int → Int → Bool)
    (hsh : Aside0 (∀ n, 0 ≤ n → n < 18446744073709551616 → 0 ≤ sh n ∧ sh n < 18446744073709551616))
    (hF : Aside0 (∀ n w, 0 ≤ n → n < 18446744073709551616 → Calls Try.prog K1 #[.int .u64 n] w fun e w' => e = .returned (.int .u64 (sh n)) ∧ w = w'))
    (hG : Aside0 (∀ n b w, Calls Try.prog K2 #[.int .u64 n, .int .u8 b] w fun e w' => e = .returned (.bool (dn n b)) ∧ w = w'))
    (hc1 : ∀ (n : Int) (w : World), Sem.run Try.prog (callFunc K1 #[.int .u64 n]) w = .ok (.enter K1 #[.int .u64 n]) w)
    (hc2 : ∀ (n b : Int) (w : World), Sem.run Try.prog (callFunc K2 #[.int .u64 n, .int .u8 b]) w = .ok (.enter K2 #[.int .u64 n, .int .u8 b]) w)
    (h0 : 0 ≤ n) (h1 : n < 18446744073709551616) (h : putL sh dn k n [] = some r) :
    Calls Try.prog 47 #[.int .u64 n, .func (.func K1) #[] #[], .func (.func K2) #[] #[]] w fun e w' => ∃ v0_ : Value, e = .returned (v0_) ∧ Kd.R (Kd.int .u8) 5 w' w.heap.size (fun _ => True) v0_ r ∧ Below w.heap.size w w' := by
  have HB := Aside0.mk (Below.refl w.heap.size w)
  have H' := Aside0.mk h
  clear h
  go_enter Try.func47, Try.ntmps47
  go_wp2
  go_loopg [0, 7] k (fun kq v0 v7 w' => ∃ (n : Int) (xs : List Int), v0 = .int .u64 n ∧ Aside0 (0 ≤ n ∧ n < 18446744073709551616) ∧ Aside0 (putL sh dn kq n xs = some r) ∧ Aside0 (kq ≤ k ∧ xs.length + kq = k) ∧ Aside0 (Kd.R (Kd.int .u8) 5 w' w.heap.size (fun _ => True) v7 xs) ∧ Aside0 (Below w.heap.size w w'))
  case atStart => exact ⟨n, [], rfl, ⟨h0, h1⟩, H', ⟨Nat.le_refl _, by simp⟩, ⟨Kd.R_nil _ _ _ _ _⟩, HB⟩
  case round =>
    clear H' h0 h1
    obtain ⟨n, xs, rfl, HN, HA, HK, HR, HB⟩ := hrel
    cases gk with
    | zero => exact absurd HA.out (by simp [putL])
    | succ k1 =>
      have H := HA.out
      clear HA
      simp only [putL] at H
      obtain ⟨n0, n1⟩ := HN.out
      obtain ⟨s0, s1⟩ := hsh.out n n0 n1
      have S0 := Aside0.mk s0
      have S1 := Aside0.mk s1
      have hkk := HK.out
      have HL : Aside0 ((xs.length + 1) * 1 ≤ 140737488355328) := ⟨by omega⟩
      have hb0 : 0 ≤ n % 128 := by omega
      have hb1 : n % 128 < 128 := by omega
      have hk1 : Aside0 (k1 ≤ k ∧ xs.length + 1 + k1 = k) := ⟨by omega⟩
      clear hkk HK
      have hand : bits .and .u64 n 127 = n % 128 := bits_mask .u64 64 (by decide) (fun n h0 h1 => by rw [IntKind.wrap_u64]; omega) 7 (by decide) n n0 n1
      have hmod : n % 128 % 256 = n % 128 := by omega
      have hor : bits .or .u8 (n % 128) 128 = n % 128 + 128 := or128 _ hb0 hb1
      go_wp2_with fail
      refine (hF.out n wr n0 n1).mono ?_
      rintro e w1 ⟨rfl, rfl⟩
      go_wp2_with fail
      refine (hG.out (sh n) (n % 128) wr).mono ?_
      rintro e w1 ⟨rfl, rfl⟩
      by_cases c : dn (sh n) (n % 128) = true
      · rw [if_pos c] at H
        obtain rfl := Option.some.inj H
        clear H
        go_wp2_with (at_builtin; refine Kd.R_append (Kd.int .u8) (w0 := w) w.heap.size rfl (.tmp 19) (.tmp 21) 22 5 (.int .u8 0) 1 rfl Try.underlying22 info5 rfl (by decide) (by omega) u7 xs (n % 128) [.int .u8 (n % 128)] (fun _ => True) (fun _ => False) rfl rfl ?aP (fun _ hk => hk.elim) ?aF ?aO ?aB ?aS ?aL ?_; (case aP => exact rfl); (case aB => exact HB.out); (case aF => exact (fun _ _ => trivial)); (case aO => exact HR.out); (case aS => exact (below_size HB.out)); (case aL => exact HL.out); intro v155 w8 ho hb hg hat; have HR1 := Aside0.mk ho; have HB1 := Aside0.mk hb; clear ho hb hg hat)
        go_ret
        exact ⟨_, rfl, HR1.out, HB1.out⟩
      · rw [if_neg c] at H
        have c' : dn (sh n) (n % 128) = false := by simpa using c
        clear c
        have H' := Aside0.mk H
        clear H
        go_wp2_with (at_builtin; refine Kd.R_append (Kd.int .u8) (w0 := w) w.heap.size rfl (.tmp 23) (.tmp 26) 22 5 (.int .u8 0) 1 rfl Try.underlying22 info5 rfl (by decide) (by omega) u7 xs (n % 128 + 128) [.int .u8 (n % 128 + 128)] (fun _ => True) (fun _ => False) rfl rfl ?aP (fun _ hk => hk.elim) ?aF ?aO ?aB ?aS ?aL ?_; (case aP => exact rfl); (case aB => exact HB.out); (case aF => exact (fun _ _ => trivial)); (case aO => exact HR.out); (case aS => exact (below_size HB.out)); (case aL => exact HL.out); intro v155 w8 ho hb hg hat; have HR1 := Aside0.mk ho; have HB1 := Aside0.mk hb; clear ho hb hg hat)
        go_roundg k1
        case measure => omega
        case rel => exact ⟨sh n, xs ++ [n % 128 + 128], rfl, ⟨S0.out, S1.out⟩, H', ⟨hk1.out.1, by have := hk1.out.2; simp; omega⟩, HR1, HB1⟩
theorem PutUint_calls (n : Int) (r : List Int) (w : World) (h0 : 0 ≤ n) (h1 : n < 18446744073709551616) (h : putL (fun n => n / 128) (fun n _ => n == 0) 100 n [] = some r) :
    Calls Try.prog 28 #[.int .u64 n] w fun e w' => ∃ v0_ : Value, e = .returned (v0_) ∧ Kd.R (Kd.int .u8) 5 w' w.heap.size (fun _ => True) v0_ r ∧ Below w.heap.size w w' := by
  have H := put_calls 100 (by omega) n r w 48 49 (fun n => n / 128) (fun n _ => n == 0) ⟨fun n h0 h1 => by omega⟩ ⟨fun n w h0 h1 => shiftU_calls n w h0 h1⟩ ⟨fun n b w => doneU_calls n b w⟩ (fun n w => by go_simp) (fun n b w => by go_simp) h0 h1 h
  have HC := Aside0.mk H
  clear H h
  go_enter Try.func28, Try.ntmps28
  go_wp2_with fail
  refine HC.out.mono ?_
  rintro e w' ⟨v, rfl, hR, hB⟩
  have HR := Aside0.mk hR
  have HB := Aside0.mk hB
  clear hR hB
  go_wp2
  go_ret
  exact ⟨_, rfl, HR.out, HB.out⟩
theorem shS_range (n : Int) : 0 ≤ shS n ∧ shS n < 18446744073709551616 := by
  unfold shS
  rw [IntKind.wrap_u64]
  omega
theorem PutSint_calls (n : Int) (r : List Int) (w : World) (h0 : 0 ≤ n) (h1 : n < 18446744073709551616) (h : putL shS dnS 100 n [] = some r) :
    Calls Try.prog 30 #[.int .u64 n] w fun e w' => ∃ v0_ : Value, e = .returned (v0_) ∧ Kd.R (Kd.int .u8) 5 w' w.heap.size (fun _ => True) v0_ r ∧ Below w.heap.size w w' := by
  have H := put_calls 100 (by omega) n r w 50 51 shS dnS ⟨fun n h0 h1 => shS_range n⟩ ⟨fun n w h0 h1 => shiftS_calls n w⟩ ⟨fun n b w => doneS_calls n b w⟩ (fun n w => by go_simp) (fun n b w => by go_simp) h0 h1 h
  have HC := Aside0.mk H
  clear H h
  go_enter Try.func30, Try.ntmps30
  go_wp2_with fail
  refine HC.out.mono ?_
  rintro e w' ⟨v, rfl, hR, hB⟩
  have HR := Aside0.mk hR
  have HB := Aside0.mk hB
  clear hR hB
  go_wp2
  go_ret
  exact ⟨_, rfl, HR.out, HB.out⟩
end Go.Proofs.Ytjhdnlgbboboiaa.Leb

/- The walk of trunnionlaw15.awake: it returns true. -/
namespace Go.Proofs.Ytjhdnlgbboboiaa.Leb
open Go.RowKit Go.Proofs.YtjhdnlgbboboiaaW.PrintWords Go.Proofs.YtjhdnlgbboboiaaW.PrintLast Go.Proofs.YtjhdnlgbboboiaaW.PrintMore Go.Proofs.Ytjhdnlgbboboiaa.Base
set_option linter.unusedVariables false
set_option linter.unusedSimpArgs false

theorem aw1 : uintR (scanF LU [229, 142, 38] 0 32) = (624485, 3, 0) := by decide +kernel
theorem aw2 : sintR (scanF LS [128, 127] 0 32) = (18446744073709551488, 2, 0) := by decide +kernel
theorem aw3 : putL (fun n => n / 128) (fun n _ => n == 0) 100 300 [] = some [172, 2] := by decide +kernel
set_option maxRecDepth 100000 in
set_option maxHeartbeats 1000000 in
theorem awake_calls (w : World) : Calls Try.prog 23 #[] w fun e w' => e = .returned (.bool true) ∧ Below w.heap.size w w' := by
  have h1 : ∀ W : World, Calls Try.prog 24 #[.slice (some ⟨W.heap.size, 0, none⟩) 3 3, .int .i64 0, .int .i64 32] (W.alloc (.cells #[.int .u8 229, .int .u8 142, .int .u8 38] 5)) fun e w' => e = .returned (.tuple #[.int .u64 624485, .int .i64 3, .int .i64 0]) ∧ Below W.heap.size W w' := by
    intro W
    refine (Uint_calls (some ⟨W.heap.size, 0, none⟩) 3 [229, 142, 38] 0 32 _ (by decide) (by decide) (C_lit W [229, 142, 38] (by decide)) (by unfold okB; decide)).mono ?_
    rintro e w' ⟨rfl, hb⟩
    rw [aw1]
    exact ⟨rfl, below_then ((Below.refl W.heap.size W).alloc (Nat.le_refl _) _) (by simp) hb⟩
  have h2 : ∀ W : World, Calls Try.prog 25 #[.slice (some ⟨W.heap.size, 0, none⟩) 2 2, .int .i64 0, .int .i64 32] (W.alloc (.cells #[.int .u8 128, .int .u8 127] 5)) fun e w' => e = .returned (.tuple #[.int .u64 18446744073709551488, .int .i64 2, .int .i64 0]) ∧ Below W.heap.size W w' := by
    intro W
    refine (Sint_calls (some ⟨W.heap.size, 0, none⟩) 2 [128, 127] 0 32 _ (by decide) (by decide) (C_lit W [128, 127] (by decide)) (by unfold okB; decide)).mono ?_
    rintro e w' ⟨rfl, hb⟩
    rw [aw2]
    exact ⟨rfl, below_then ((Below.refl W.heap.size W).alloc (Nat.le_refl _) _) (by simp) hb⟩
  have h3 : ∀ W : World, Calls Try.prog 28 #[.int .u64 300] W fun e w' => ∃ A c, e = .returned (.slice A 2 c) ∧ Below W.heap.size W w' := by
    intro W
    refine (PutUint_calls 300 _ W (by decide) (by decide) aw3).mono ?_
    rintro e w' ⟨v, rfl, hR, hb⟩
    obtain ⟨A, c, rfl⟩ := Kd.R_slice hR
    exact ⟨A, c, rfl, hb⟩
  have H1 := Aside0.mk h1
  have H2 := Aside0.mk h2
  have H3 := Aside0.mk h3
  clear h1 h2 h3
  go_enter Try.func23, Try.ntmps23
  go_wp2_with fail
  refine (H1.out w).mono ?_
  rintro e w1 ⟨rfl, hb⟩
  have HB1 := Aside0.mk hb
  clear hb
  go_wp2_with fail
  refine (H2.out w1).mono ?_
  rintro e w2 ⟨rfl, hb⟩
  have HB2 := Aside0.mk (below_then HB1.out HB1.out.size hb)
  clear hb
  go_wp2_with fail
  refine (H3.out w2).mono ?_
  rintro e w3 ⟨A, c, rfl, hb⟩
  have HB3 := Aside0.mk (below_then HB2.out HB2.out.size hb)
  clear hb
  go_wp2
  go_ret
  exact ⟨rfl, HB3.out⟩
end Go.Proofs.Ytjhdnlgbboboiaa.Leb

/- leb's functions as the printer's callers want them: a plain answer, and that the call gives it. -/
namespace Go.Proofs.Ytjhdnlgbboboiaa.Leb
open Go.RowKit Go.Proofs.YtjhdnlgbboboiaaW.PrintWords Go.Proofs.YtjhdnlgbboboiaaW.PrintLast Go.Proofs.YtjhdnlgbboboiaaW.PrintMore Go.Proofs.Ytjhdnlgbboboiaa.Base
set_option linter.unusedVariables false
set_option linter.unusedSimpArgs false

def okBb (l : List Int) : Bool := l.all fun x => decide (0 ≤ x) && decide (x < 256)
theorem okBb_ok {l : List Int} (h : okBb l = true) : okB l := by
  intro x hx
  have := List.all_eq_true.1 h x hx
  simpa using this
theorem okBb_of {l : List Int} (h : okB l) : okBb l = true := by
  unfold okBb
  rw [List.all_eq_true]
  intro x hx
  have := h x hx
  simpa using this
def uintF (l : List Int) (a b : Int) : Option (Int × Int × Int) := if okBb l = true then (if l.length ≤ 140737488355328 then some (uintR (scanF LU l a b)) else none) else none
def sintF (l : List Int) (a b : Int) : Option (Int × Int × Int) := if okBb l = true then (if l.length ≤ 140737488355328 then some (sintR (scanF LS l a b)) else none) else none
def putUF (n : Int) : Option (List Int) := if 0 ≤ n then (if n < 18446744073709551616 then putL (fun n => n / 128) (fun n _ => n == 0) 100 n [] else none) else none
def putSF (n : Int) : Option (List Int) := if 0 ≤ n then (if n < 18446744073709551616 then putL shS dnS 100 n [] else none) else none
theorem uintF_calls (A0 : Option Addr) (c0 : Nat) (l0 : List Int) (a1 : Int) (a2 : Int) (r1 : Int) (r2 : Int) (r3 : Int) (w : World) (hr0 : Kd.C (Kd.int .u8) w A0 l0.length l0) (hc0 : l0.length ≤ c0) (h : uintF l0 a1 a2 = some (r1, r2, r3)) :
    Calls Try.prog 24 #[.slice A0 l0.length c0, .int .i64 a1, .int .i64 a2] w fun e w' => e = .returned (.tuple #[.int .u64 r1, .int .i64 r2, .int .i64 r3]) ∧ Below w.heap.size w w' := by
  unfold uintF at h
  split at h
  · rename_i hk
    split at h
    · rename_i hl
      refine (Uint_calls A0 c0 l0 a1 a2 w hl hc0 hr0 (okBb_ok hk)).mono ?_
      rintro e w' ⟨rfl, hb⟩
      rw [Option.some.inj h]
      exact ⟨rfl, hb⟩
    · cases h
  · cases h
theorem sintF_calls (A0 : Option Addr) (c0 : Nat) (l0 : List Int) (a1 : Int) (a2 : Int) (r1 : Int) (r2 : Int) (r3 : Int) (w : World) (hr0 : Kd.C (Kd.int .u8) w A0 l0.length l0) (hc0 : l0.length ≤ c0) (h : sintF l0 a1 a2 = some (r1, r2, r3)) :
    Calls Try.prog 25 #[.slice A0 l0.length c0, .int .i64 a1, .int .i64 a2] w fun e w' => e = .returned (.tuple #[.int .u64 r1, .int .i64 r2, .int .i64 r3]) ∧ Below w.heap.size w w' := by
  unfold sintF at h
  split at h
  · rename_i hk
    split at h
    · rename_i hl
      refine (Sint_calls A0 c0 l0 a1 a2 w hl hc0 hr0 (okBb_ok hk)).mono ?_
      rintro e w' ⟨rfl, hb⟩
      rw [Option.some.inj h]
      exact ⟨rfl, hb⟩
    · cases h
  · cases h
theorem putUF_calls (a0 : Int) (r : List Int) (w : World) (h : putUF a0 = some r) :
    Calls Try.prog 28 #[.int .u64 a0] w fun e w' => ∃ v0_ : Value, e = .returned (v0_) ∧ Kd.R (Kd.int .u8) 5 w' w.heap.size (fun _ => True) v0_ r ∧ Below w.heap.size w w' := by
  unfold putUF at h
  split at h
  · rename_i h0
    split at h
    · rename_i h1
      exact PutUint_calls a0 r w h0 h1 h
    · cases h
  · cases h
theorem putSF_calls (a0 : Int) (r : List Int) (w : World) (h : putSF a0 = some r) :
    Calls Try.prog 30 #[.int .u64 a0] w fun e w' => ∃ v0_ : Value, e = .returned (v0_) ∧ Kd.R (Kd.int .u8) 5 w' w.heap.size (fun _ => True) v0_ r ∧ Below w.heap.size w w' := by
  unfold putSF at h
  split at h
  · rename_i h0
    split at h
    · rename_i h1
      exact PutSint_calls a0 r w h0 h1 h
    · cases h
  · cases h
end Go.Proofs.Ytjhdnlgbboboiaa.Leb

/- The plain law of leb's readers: what the program's loop says is what the document's recursion says. No program in sight. -/
namespace Go.Proofs.Ytjhdnlgbboboiaa.Leb
open Go.RowKit Go.Proofs.YtjhdnlgbboboiaaW.PrintWords
set_option linter.unusedVariables false

/-- Two to the seven times j. -/
def P7 (j : Nat) : Int := 2 ^ (7 * j)
theorem toNat7 (j : Nat) : (7 * (j : Int)).toNat = 7 * j := by omega
theorem ten {j : Nat} (h : j ≤ 9) : j = 0 ∨ j = 1 ∨ j = 2 ∨ j = 3 ∨ j = 4 ∨ j = 5 ∨ j = 6 ∨ j = 7 ∨ j = 8 ∨ j = 9 := by omega
theorem seriesN_add (j : Nat) (hj : j ≤ 9) (n x : Int) (n0 : 0 ≤ n) (n1 : n < P7 j) : seriesN n x (7 * (j : Int)) = n + x % 128 * P7 j % 18446744073709551616 := by
  unfold seriesN
  rw [toNat7, IntKind.wrap_u64]
  have e : (2 : Int) ^ (7 * j) = P7 j := rfl
  rw [e]
  have hm : 0 ≤ x % 128 * P7 j % 18446744073709551616 := Int.emod_nonneg _ (by decide)
  have hm1 : x % 128 * P7 j % 18446744073709551616 < 18446744073709551616 := Int.emod_lt_of_pos _ (by decide)
  have hd : x % 128 * P7 j % 18446744073709551616 % 2 ^ (7 * j) = 0 := by
    rcases ten hj with rfl | rfl | rfl | rfl | rfl | rfl | rfl | rfl | rfl | rfl <;> simp only [P7, Nat.reduceMul, Int.reducePow] <;> omega
  have hp : P7 j ≤ 2 ^ 64 := by
    rcases ten hj with rfl | rfl | rfl | rfl | rfl | rfl | rfl | rfl | rfl | rfl <;> simp only [P7, Nat.reduceMul, Int.reducePow] <;> omega
  exact bits_join_low .u64 64 (by decide) (fun n h0 h1 => by rw [IntKind.wrap_u64]; omega) (7 * j) n _ n0 n1 (by omega) hm hd (by simpa using hm1)

/-- The document's unsigned number. -/
def refU : List Int → Int → Int → Int × Int × Int
  | [], a, b => (0, 0, 100)
  | x :: xs, a, b =>
    if x < 128 then (if b < 7 ∧ two7 b ≤ x then (0, 0, 101) else (x, a + 1, 0))
    else if b ≤ 7 then (0, 0, 101)
    else
      let r := refU xs (a + 1) (b - 7)
      if r.2.2 = 0 then (x - 128 + 128 * r.1, r.2.1, 0) else (0, 0, r.2.2)
theorem two7_range (b : Int) (h0 : 1 ≤ b) (h : b < 7) : 2 ≤ two7 b ∧ two7 b ≤ 64 := by
  unfold two7
  repeat' split
  all_goals omega
theorem P7_succ (j : Nat) : P7 (j + 1) = 128 * P7 j := by
  unfold P7
  rw [show 7 * (j + 1) = 7 * j + 7 from by omega, Int.pow_add]
  omega
theorem P7_pos (j : Nat) : 0 < P7 j := Int.pow_pos (by decide)
/-- What a number of b bits fits below, with what came before. -/
theorem scanU (l : List Int) : ∀ (a n : Int) (j : Nat) (b : Int), okB l → 0 ≤ n → n < P7 j → j ≤ 9 → 1 ≤ b → 7 * (j : Int) + b ≤ 64 →
    uintR (scanL LU l a n (7 * (j : Int)) b) = (if (refU l a b).2.2 = 0 then (n + P7 j * (refU l a b).1, (refU l a b).2.1, 0) else (0, 0, (refU l a b).2.2)) ∧ ((refU l a b).2.2 = 0 → 0 ≤ (refU l a b).1 ∧ n + P7 j * (refU l a b).1 < 18446744073709551616) := by
  induction l with
  | nil => intro a n j b _ _ _ _ _ _; simp [scanL, uintR, refU]
  | cons x xs ih =>
    intro a n j b hok n0 n1 hj b1 hb
    have hx := hok x (by simp)
    have hxs : okB xs := fun y hy => hok y (by simp [hy])
    have hpos := P7_pos j
    unfold scanL refU
    by_cases c1 : x < 128
    · rw [if_pos c1, if_pos c1]
      by_cases c2 : b < 7 ∧ two7 b ≤ x
      · have : LU x b = false := by unfold LU; rw [if_neg (by omega)]; simp; omega
        rw [if_pos c2, this]
        simp [uintR]
      · have hLU : LU x b = true := by
          unfold LU
          split
          · rfl
          · simp; omega
        rw [if_neg c2, hLU]
        have hfit : n + P7 j * x < 18446744073709551616 ∧ x % 128 * P7 j % 18446744073709551616 = P7 j * x := by
          have hx7 : x % 128 = x := by omega
          rw [hx7]
          rcases ten hj with rfl | rfl | rfl | rfl | rfl | rfl | rfl | rfl | rfl | rfl
          case inr.inr.inr.inr.inr.inr.inr.inr.inr =>
            have : b = 1 := by omega
            subst this
            simp [two7] at c2
            simp only [P7, Nat.reduceMul, Int.reducePow] at *
            omega
          all_goals
            simp only [P7, Nat.reduceMul, Int.reducePow] at *
            omega
        simp only [uintR, if_true]
        rw [seriesN_add j hj n x n0 n1, hfit.2]
        exact ⟨rfl, fun _ => ⟨hx.1, hfit.1⟩⟩
    · rw [if_neg c1, if_neg c1]
      by_cases c2 : b ≤ 7
      · rw [if_pos c2, if_pos c2]
        simp [uintR]
      · rw [if_neg c2, if_neg c2]
        have hj8 : j ≤ 8 := by omega
        have hs : seriesN n x (7 * (j : Int)) = n + P7 j * (x - 128) := by
          rw [seriesN_add j hj n x n0 n1, show x % 128 = x - 128 from by omega]
          rcases ten hj with rfl | rfl | rfl | rfl | rfl | rfl | rfl | rfl | rfl | rfl
          case inr.inr.inr.inr.inr.inr.inr.inr.inr => omega
          all_goals
            simp only [P7, Nat.reduceMul, Int.reducePow] at *
            omega
        have hn0 : 0 ≤ n + P7 j * (x - 128) := by have := Int.mul_nonneg (Int.le_of_lt hpos) (show 0 ≤ x - 128 by omega); omega
        have hn1 : n + P7 j * (x - 128) < P7 (j + 1) := by
          rw [P7_succ]
          have := Int.mul_le_mul_of_nonneg_left (show x - 128 ≤ 127 by omega) (Int.le_of_lt hpos)
          omega
        have := ih (a + 1) (n + P7 j * (x - 128)) (j + 1) (b - 7) hxs hn0 hn1 (by omega) (by omega) (by omega)
        rw [show (7 * ((j + 1 : Nat) : Int)) = 7 * (j : Int) + 7 from by omega] at this
        rw [hs, this.1]
        generalize refU xs (a + 1) (b - 7) = r at *
        have e : n + P7 j * (x - 128) + P7 (j + 1) * r.1 = n + P7 j * (x - 128 + 128 * r.1) := by rw [P7_succ, Int.mul_add, ← Int.mul_assoc, Int.mul_comm 128 (P7 j)]; omega
        rw [e] at this ⊢
        by_cases c3 : r.2.2 = 0
        · simp only [c3, if_true]
          refine ⟨by simp, fun _ => ?_⟩
          have h2 := this.2 c3
          exact ⟨by omega, h2.2⟩
        · simp [c3]
/-- The document's signed number, with its sign. -/
def refS : List Int → Int → Int → Int × Int × Int
  | [], a, b => (0, 0, 100)
  | x :: xs, a, b =>
    if x < 128 then (if LS x b = true then ((if 64 ≤ x then x - 128 else x), a + 1, 0) else (0, 0, 101))
    else if b ≤ 7 then (0, 0, 101)
    else
      let r := refS xs (a + 1) (b - 7)
      if r.2.2 = 0 then (x - 128 + 128 * r.1, r.2.1, 0) else (0, 0, r.2.2)
theorem or_low (i : Nat) (y x : Int) (y0 : 0 ≤ y) (y1 : y < 2 ^ i) (y2 : y < 2 ^ 64) (x0 : 0 ≤ x) (hx : x % 2 ^ i = 0) (x1 : x < 2 ^ 64) : bits .or .u64 y x = y + x :=
  bits_join_low .u64 64 (by decide) (fun n h0 h1 => by rw [IntKind.wrap_u64]; omega) i y x y0 y1 y2 x0 hx x1
/-- The last byte of a signed number. -/
theorem sintN_last (j : Nat) (hj : j ≤ 9) (n x : Int) (n0 : 0 ≤ n) (n1 : n < P7 j) (x0 : 0 ≤ x) (x1 : x < 128) :
    sintN (seriesN n x (7 * (j : Int))) (7 * (j : Int) + 7) = (n + P7 j * (if 64 ≤ x then x - 128 else x)) % 18446744073709551616 := by
  rw [seriesN_add j hj n x n0 n1, show x % 128 = x from by omega]
  unfold sintN
  by_cases c9 : j = 9
  · subst c9
    rw [if_neg (by decide)]
    simp only [P7, Nat.reduceMul, Int.reducePow] at *
    split <;> omega
  · have hj8 : j ≤ 8 := by omega
    rw [if_pos (by omega)]
    have e1 : (7 * (j : Int) + 7).toNat = 7 * j + 7 := by omega
    rw [e1, IntKind.wrap_u64]
    have hx : x * P7 j % 18446744073709551616 = P7 j * x := by
      rcases ten hj with rfl | rfl | rfl | rfl | rfl | rfl | rfl | rfl | rfl | rfl
      case inr.inr.inr.inr.inr.inr.inr.inr.inr => omega
      all_goals
        simp only [P7, Nat.reduceMul, Int.reducePow] at *
        omega
    rw [hx]
    have hbit : (n + P7 j * x) / 2 ^ (7 * j + 7 - 1) % 2 = x / 64 := by
      rcases ten hj with rfl | rfl | rfl | rfl | rfl | rfl | rfl | rfl | rfl | rfl
      case inr.inr.inr.inr.inr.inr.inr.inr.inr => omega
      all_goals
        simp only [P7, Nat.reduceMul, Nat.reduceAdd, Nat.reduceSub, Int.reducePow] at *
        omega
    rw [hbit]
    have hlt : 0 ≤ n + P7 j * x ∧ n + P7 j * x < 2 ^ (7 * j + 7) ∧ n + P7 j * x < 2 ^ 64 := by
      rcases ten hj with rfl | rfl | rfl | rfl | rfl | rfl | rfl | rfl | rfl | rfl
      case inr.inr.inr.inr.inr.inr.inr.inr.inr => omega
      all_goals
        simp only [P7, Nat.reduceMul, Nat.reduceAdd, Int.reducePow] at *
        omega
    by_cases c : 64 ≤ x
    · rw [if_pos (by omega), if_pos c]
      have hy : (18446744073709551615 * 2 ^ (7 * j + 7) : Int) % 18446744073709551616 = 18446744073709551616 - 128 * P7 j := by
        rcases ten hj with rfl | rfl | rfl | rfl | rfl | rfl | rfl | rfl | rfl | rfl
        case inr.inr.inr.inr.inr.inr.inr.inr.inr => omega
        all_goals
          simp only [P7, Nat.reduceMul, Nat.reduceAdd, Int.reducePow]
          try decide
      rw [hy]
      have hz : 0 ≤ 18446744073709551616 - 128 * P7 j ∧ (18446744073709551616 - 128 * P7 j) % 2 ^ (7 * j + 7) = 0 ∧ 18446744073709551616 - 128 * P7 j < 2 ^ 64 := by
        rcases ten hj with rfl | rfl | rfl | rfl | rfl | rfl | rfl | rfl | rfl | rfl
        case inr.inr.inr.inr.inr.inr.inr.inr.inr => omega
        all_goals
          simp only [P7, Nat.reduceMul, Nat.reduceAdd, Int.reducePow]
          try decide
      rw [or_low (7 * j + 7) _ _ hlt.1 hlt.2.1 hlt.2.2 hz.1 hz.2.1 hz.2.2]
      rcases ten hj with rfl | rfl | rfl | rfl | rfl | rfl | rfl | rfl | rfl | rfl
      case inr.inr.inr.inr.inr.inr.inr.inr.inr => omega
      all_goals
        simp only [P7, Nat.reduceMul, Nat.reduceAdd, Int.reducePow] at *
        omega
    · rw [if_neg (by omega), if_neg c]
      have := hlt.2.2
      rw [Int.emod_eq_of_lt hlt.1 (by simpa using this)]
theorem scanS (l : List Int) : ∀ (a n : Int) (j : Nat) (b : Int), okB l → 0 ≤ n → n < P7 j → j ≤ 9 → 1 ≤ b → 7 * (j : Int) + b ≤ 64 →
    sintR (scanL LS l a n (7 * (j : Int)) b) = (if (refS l a b).2.2 = 0 then ((n + P7 j * (refS l a b).1) % 18446744073709551616, (refS l a b).2.1, 0) else (0, 0, (refS l a b).2.2)) := by
  induction l with
  | nil => intro a n j b _ _ _ _ _ _; simp [scanL, sintR, refS]
  | cons x xs ih =>
    intro a n j b hok n0 n1 hj b1 hb
    have hx := hok x (by simp)
    have hxs : okB xs := fun y hy => hok y (by simp [hy])
    have hpos := P7_pos j
    unfold scanL refS
    by_cases c1 : x < 128
    · rw [if_pos c1, if_pos c1]
      by_cases c2 : LS x b = true
      · rw [if_pos c2, if_pos c2]
        simp only [sintR, if_true]
        rw [sintN_last j hj n x n0 n1 hx.1 c1]
      · rw [if_neg c2, if_neg c2]
        simp [sintR]
    · rw [if_neg c1, if_neg c1]
      by_cases c2 : b ≤ 7
      · rw [if_pos c2, if_pos c2]
        simp [sintR]
      · rw [if_neg c2, if_neg c2]
        have hj8 : j ≤ 8 := by omega
        have hs : seriesN n x (7 * (j : Int)) = n + P7 j * (x - 128) := by
          rw [seriesN_add j hj n x n0 n1, show x % 128 = x - 128 from by omega]
          rcases ten hj with rfl | rfl | rfl | rfl | rfl | rfl | rfl | rfl | rfl | rfl
          case inr.inr.inr.inr.inr.inr.inr.inr.inr => omega
          all_goals
            simp only [P7, Nat.reduceMul, Int.reducePow] at *
            omega
        have hn0 : 0 ≤ n + P7 j * (x - 128) := by have := Int.mul_nonneg (Int.le_of_lt hpos) (show 0 ≤ x - 128 by omega); omega
        have hn1 : n + P7 j * (x - 128) < P7 (j + 1) := by
          rw [P7_succ]
          have := Int.mul_le_mul_of_nonneg_left (show x - 128 ≤ 127 by omega) (Int.le_of_lt hpos)
          omega
        have := ih (a + 1) (n + P7 j * (x - 128)) (j + 1) (b - 7) hxs hn0 hn1 (by omega) (by omega) (by omega)
        rw [show (7 * ((j + 1 : Nat) : Int)) = 7 * (j : Int) + 7 from by omega] at this
        rw [hs, this]
        generalize refS xs (a + 1) (b - 7) = r at *
        have e : n + P7 j * (x - 128) + P7 (j + 1) * r.1 = n + P7 j * (x - 128 + 128 * r.1) := by rw [P7_succ, Int.mul_add, ← Int.mul_assoc, Int.mul_comm 128 (P7 j)]; omega
        rw [e]
        by_cases c3 : r.2.2 = 0
        · simp [c3]
        · simp [c3]
end Go.Proofs.Ytjhdnlgbboboiaa.Leb
