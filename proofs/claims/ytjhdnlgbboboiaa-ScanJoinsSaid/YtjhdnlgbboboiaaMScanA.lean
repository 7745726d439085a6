/- A cursor in memory; the tape's walks. -/
import Derived.Test.YtjhdnlgbboboiaaMLeb
import Derived.Deep.RegionWith
import Derived.Outline
import Derived.Test.YtjhdnlgbboboiaaMem
import Derived.Test.YtjhdnlgbboboiaaMUtf
namespace Go.Proofs.Ytjhdnlgbboboiaa.Scan
open Go.Proofs.Ytjhdnlgbboboiaa.Leb Go.RowKit Go.Proofs.YtjhdnlgbboboiaaW.PrintWords Go.Proofs.YtjhdnlgbboboiaaW.PrintLast Go.Proofs.YtjhdnlgbboboiaaW.PrintMore Go.Proofs.Ytjhdnlgbboboiaa.Base
set_option linter.unusedVariables false
set_option linter.unusedSimpArgs false
abbrev ku : Kd Int := Kd.int .u8
/-- What is kept behind a call: all blocks but one. -/
theorem grown_then {w w1 w2 : World} {r : Option Nat} (h : w.grownBy w1 r) (k : w1.grownBy w2 r) : w.grownBy w2 r :=
  ⟨k.os.trans h.os, k.tape.trans h.tape, k.output.trans h.output, Nat.le_trans h.size k.size, fun i hi hn => (k.block i (Nat.lt_of_lt_of_le hi h.size) hn).trans (h.block i hi hn)⟩
theorem grown_refl (w : World) (r : Option Nat) : w.grownBy w r := ⟨rfl, rfl, rfl, Nat.le_refl _, fun _ _ _ => rfl⟩
theorem grown_set (w : World) (g off : Nat) (v : Value) : w.grownBy (w.setCell ⟨g, off, none⟩ v) (some g) :=
  ⟨rfl, rfl, rfl, by simp [World.setCell], fun i _ hn => Below.heap_setCell w ⟨g, off, none⟩ v i (fun e => hn (by rw [e]))⟩
structure Cur (W : World) (g : Nat) (A : Option Addr) (c : Nat) (l : List Int) (a e : Int) : Prop where
  box : W.heap[g]? = some (.cells #[.slice A l.length c, .int .i64 a, .int .i64 e] 68 (0, 0))
  bytes : Kd.F ku W (fun k => k ≠ g) A l.length l
  cap : l.length ≤ c
  lo : 0 ≤ a
  hi : a ≤ (l.length : Int)
  ok : okB l
  sm : l.length ≤ 1000000
section
variable {W W1 : World} {g c : Nat} {A : Option Addr} {l : List Int} {a e : Int}
theorem Cur.lt (h : Cur W g A c l a e) : g < W.heap.size := blk_lt h.box
theorem Cur.below (h : Cur W g A c l a e) (hb : Below W.heap.size W W1) : Cur W1 g A c l a e := ⟨(hb.block g h.lt).trans h.box, Kd.F_step h.bytes fun k _ hlt => hb.block k hlt, h.cap, h.lo, h.hi, h.ok, h.sm⟩
theorem Cur.set_at (h : Cur W g A c l a e) (x : Int) (h0 : 0 ≤ x) (h1 : x ≤ (l.length : Int)) : Cur (W.setCell ⟨g, 1, none⟩ (.int .i64 x)) g A c l x e :=
  ⟨blk_set h.box 1 (.int .i64 x), Kd.F_step h.bytes fun k hk _ => Below.heap_setCell W ⟨g, 1, none⟩ _ k hk, h.cap, h0, h1, h.ok, h.sm⟩
theorem Cur.set_e (h : Cur W g A c l a e) (x : Int) : Cur (W.setCell ⟨g, 2, none⟩ (.int .i64 x)) g A c l a x :=
  ⟨blk_set h.box 2 (.int .i64 x), Kd.F_step h.bytes fun k hk _ => Below.heap_setCell W ⟨g, 2, none⟩ _ k hk, h.cap, h.lo, h.hi, h.ok, h.sm⟩
theorem Cur.c0 (h : Cur W g A c l a e) : W.cell? ⟨g, 0, none⟩ = some (.slice A l.length c) := (blk_cell h.box 0).trans rfl
theorem Cur.c1 (h : Cur W g A c l a e) : W.cell? ⟨g, 1, none⟩ = some (.int .i64 a) := (blk_cell h.box 1).trans rfl
theorem Cur.c2 (h : Cur W g A c l a e) : W.cell? ⟨g, 2, none⟩ = some (.int .i64 e) := (blk_cell h.box 2).trans rfl
theorem Cur.f (h : Cur W g A c l a e) (o : Nat) : W.frozen? ⟨g, o, none⟩ = false := blk_frozen h.box o
end
def Did (w : World) (g : Nat) (A : Option Addr) (c : Nat) (l : List Int) (r : Value) (a e : Int) (en : Ending) (w' : World) : Prop := en = .returned r ∧ w.grownBy w' (some g) ∧ Cur w' g A c l a e
section
variable {w : World} {g c : Nat} {A : Option Addr} {l : List Int} {a e : Int}
theorem good_calls (h : Cur w g A c l a e) : Calls Try.prog 97 #[.pointer (some ⟨g, 0, none⟩)] w fun en w' => en = .returned (.bool (e == 0)) ∧ w = w' := by
  have x := h.c2
  clear h
  go_enter Try.func97, Try.ntmps97
  go_wp2
  go_ret
  exact ⟨by simp, rfl⟩
theorem fail_yes (h : Cur w g A c l a 0) (er : Int) (hn : er ≠ 0) : Calls Try.prog 63 #[.pointer (some ⟨g, 0, none⟩), .int .i64 er, .int .i64 a] w (Did w g A c l (.tuple #[]) a er) := by
  have GC := Aside0.mk (good_calls h)
  have x1 := h.c1
  have x2 := h.c2
  have f1 := h.f 1
  have f2 := h.f 2
  have d : ((er : Int) != 0) = true := by rw [bne_iff_ne]; exact hn
  have H := Aside0.mk h
  clear h hn
  go_enter Try.func63, Try.ntmps63
  go_wp2_with (first | (go_at_call 97; refine GC.out.mono ?_; rintro e w1 ⟨rfl, rfl⟩) | fail)
  go_end0
  exact ⟨rfl, grown_then (grown_set _ _ _ _) (grown_set _ _ _ _), (H.out.set_e er).set_at a H.out.lo H.out.hi⟩
theorem fail_no (h : Cur w g A c l a e) (er at_ : Int) (hn : e ≠ 0 ∨ er = 0) : Calls Try.prog 63 #[.pointer (some ⟨g, 0, none⟩), .int .i64 er, .int .i64 at_] w (Did w g A c l (.tuple #[]) a e) := by
  have GC := Aside0.mk (good_calls h)
  have H := Aside0.mk h
  by_cases h0 : e = 0
  · have d : (e == 0) = true := beq_iff_eq.2 h0
    rw [d] at GC
    have d2 : ((er : Int) != 0) = false := by
      rcases hn with h1 | h1
      · exact absurd h0 h1
      · rw [h1]; rfl
    clear h hn h0 d
    go_enter Try.func63, Try.ntmps63
    go_wp2_with (first | (go_at_call 97; refine GC.out.mono ?_; rintro e w1 ⟨rfl, rfl⟩) | fail)
    go_end0
    exact ⟨rfl, grown_refl _ _, H.out⟩
  · have d : (e == 0) = false := beq_eq_false_iff_ne.2 h0
    rw [d] at GC
    clear h hn h0 d
    go_enter Try.func63, Try.ntmps63
    go_wp2_with (first | (go_at_call 97; refine GC.out.mono ?_; rintro e w1 ⟨rfl, rfl⟩) | fail)
    go_end0
    exact ⟨rfl, grown_refl _ _, H.out⟩
/-- The error behind a failure. -/
def fl (er e : Int) : Int := if e = 0 then er else e
theorem fail_any (h : Cur w g A c l a e) (er : Int) (hn : er ≠ 0) : Calls Try.prog 63 #[.pointer (some ⟨g, 0, none⟩), .int .i64 er, .int .i64 a] w (Did w g A c l (.tuple #[]) a (fl er e)) := by
  unfold fl
  by_cases h0 : e = 0
  · subst h0
    rw [if_pos rfl]
    exact fail_yes h er hn
  · rw [if_neg h0]
    exact fail_no h er a (.inl h0)
theorem At_calls (h : Cur w g A c l a e) : Calls Try.prog 35 #[.pointer (some ⟨g, 0, none⟩)] w fun en w' => en = .returned (.int .i64 a) ∧ w = w' := by
  have x := h.c1
  clear h
  go_enter Try.func35, Try.ntmps35
  go_wp2
  go_ret
  exact ⟨rfl, rfl⟩
theorem Err_calls (h : Cur w g A c l a e) : Calls Try.prog 37 #[.pointer (some ⟨g, 0, none⟩)] w fun en w' => en = .returned (.int .i64 e) ∧ w = w' := by
  have x := h.c2
  clear h
  go_enter Try.func37, Try.ntmps37
  go_wp2
  go_ret
  exact ⟨rfl, rfl⟩
theorem Left_calls (h : Cur w g A c l a e) : Calls Try.prog 36 #[.pointer (some ⟨g, 0, none⟩)] w fun en w' => en = .returned (.int .i64 ((l.length : Int) - a)) ∧ ∃ n, w' = w.drewN n := by
  have x := h.c1
  have y := h.c0
  have h0 := h.lo
  have h1 := h.hi
  have h2 := h.sm
  have h3 : (l.length : Int) ≤ 1000000 := by omega
  clear h h2
  go_enter Try.func36, Try.ntmps36
  go_wp2
  go_quiet (fail)
  go_wp2
  go_ret
  exact ⟨rfl, _, rfl⟩
theorem Fail_calls (h : Cur w g A c l a e) (er : Int) (hn : er ≠ 0) : Calls Try.prog 38 #[.pointer (some ⟨g, 0, none⟩), .int .i64 er] w (Did w g A c l (.tuple #[]) a (fl er e)) := by
  have H := Aside0.mk h
  have FC := Aside0.mk (fail_any (h.below (below_drew (Below.refl _ _))) er hn)
  have x := h.c1
  clear h
  go_enter Try.func38, Try.ntmps38
  go_wp2
  go_region_with (go_at_call 63; refine FC.out.mono ?_; rintro e1 w1 ⟨rfl, hg, hc⟩; have HG := Aside0.mk hg; have HC := Aside0.mk hc; clear hg hc)
  all_goals
    go_wp2
    go_end0
    exact ⟨rfl, grown_then (grown_of_below (below_drew (Below.refl _ _)) _) HG.out, HC.out⟩
theorem Fail_zero (h : Cur w g A c l a e) : Calls Try.prog 38 #[.pointer (some ⟨g, 0, none⟩), .int .i64 0] w (Did w g A c l (.tuple #[]) a e) := by
  have H := Aside0.mk h
  have FC := Aside0.mk (fail_no (h.below (below_drew (Below.refl _ _))) 0 a (.inr rfl))
  have x := h.c1
  clear h
  go_enter Try.func38, Try.ntmps38
  go_wp2
  go_region_with (go_at_call 63; refine FC.out.mono ?_; rintro e1 w1 ⟨rfl, hg, hc⟩; have HG := Aside0.mk hg; have HC := Aside0.mk hc; clear hg hc)
  all_goals
    go_wp2
    go_end0
    exact ⟨rfl, grown_then (grown_of_below (below_drew (Below.refl _ _)) _) HG.out, HC.out⟩
end
end Go.Proofs.Ytjhdnlgbboboiaa.Scan

/- The walks of take and of number. -/
namespace Go.Proofs.Ytjhdnlgbboboiaa.Scan
open Go.Proofs.Ytjhdnlgbboboiaa.Leb Go.RowKit Go.Proofs.YtjhdnlgbboboiaaW.PrintWords Go.Proofs.YtjhdnlgbboboiaaW.PrintLast Go.Proofs.YtjhdnlgbboboiaaW.PrintMore Go.Proofs.Ytjhdnlgbboboiaa.Base
set_option linter.unusedVariables false
set_option linter.unusedSimpArgs false
theorem slice22 (W : World) (A : Option Addr) (n c : Nat) (lo hi : Nat) (h0 : lo ≤ hi) (h1 : hi ≤ c) : (Instr.sliceAt 22 (.slice A n c) (some (.int .i64 (lo : Int))) (some (.int .i64 (hi : Int))) none).run Try.prog W = .ok (.slice (if c = lo then A else A.map (·.add (lo * 1))) (hi - lo) (c - lo)) W := by
  have hu : Try.prog.underlying 22 = some (.slice (Try.prog.elem 22)) := by kernel_rfl
  have hs : ∀ w, (sizeOf (Try.prog.elem 22)).run Try.prog w = .ok 1 w := fun _ => by kernel_rfl
  rw [run_sliceAt_slice _ _ _ _ _ _ hu, run_slice_lh _ _ _ _ _ hu _ _ _ _ (by omega) (by omega) (by omega), hs]
  simp [sliced, Result.andThen]
def TookPost (w : World) (g : Nat) (A : Option Addr) (c : Nat) (l : List Int) (n : Nat) (a e : Int) (en : Ending) (w' : World) : Prop :=
  ∃ A' c', en = .returned (.slice A' n c') ∧ Kd.F ku w' (fun k => k ≠ g) A' n ((l.drop a.toNat).take n) ∧ n ≤ c' ∧ w.grownBy w' (some g) ∧ Cur w' g A c l (a + n) e
section
variable {w : World} {g c : Nat} {A : Option Addr} {l : List Int} {a e : Int}
set_option maxRecDepth 100000 in
theorem take_no (h : Cur w g A c l a e) (n : Int) (hn : n > (l.length : Int) - a) : Calls Try.prog 104 #[.pointer (some ⟨g, 0, none⟩), .int .i64 n] w (Did w g A c l (.slice none 0 0) a (fl 100 e)) := by
  have LC := Aside0.mk (Left_calls h)
  have FC := Aside0.mk (fun (W : World) (hW : Below w.heap.size w W) => fail_any (h.below hW) 100 (by decide))
  have GC := Aside0.mk (fun (W : World) (hW : Below w.heap.size w W) => (h.below hW).c1)
  have d1 : decide (n > (l.length : Int) - a) = true := decide_eq_true hn
  clear h hn
  go_enter Try.func104, Try.ntmps104
  go_wp2_with (first | (go_at_call 36; refine LC.out.mono ?_; rintro e1 w1 ⟨rfl, nq, hw1⟩; obtain ⟨W1, hW1⟩ : ∃ W1, W1 = w1 := ⟨_, rfl⟩; have HW := Aside0.mk (show Below w.heap.size w w1 by rw [hw1]; exact pw_below_drewN (Below.refl _ _) _); have x := GC.out w1 HW.out; clear hw1 hW1; clear W1) | fail)
  go_region_with (go_at_call 63; refine (FC.out _ (below_drew HW.out)).mono ?_; rintro e1 w2 ⟨rfl, hg, hc⟩; have HG := Aside0.mk hg; have HC := Aside0.mk hc; clear hg hc)
  all_goals
    go_wp2
    go_ret
    exact ⟨rfl, grown_then (grown_of_below (below_drew HW.out) _) HG.out, HC.out⟩
set_option maxRecDepth 100000 in
theorem take_yes (h : Cur w g A c l a e) (n : Nat) (hn : (n : Int) ≤ (l.length : Int) - a) : Calls Try.prog 104 #[.pointer (some ⟨g, 0, none⟩), .int .i64 (n : Int)] w (TookPost w g A c l n a e) := by
  obtain ⟨b, rfl⟩ := Int.eq_ofNat_of_zero_le h.lo
  have LC := Aside0.mk (Left_calls h)
  have HC := Aside0.mk (fun (W : World) (hW : Below w.heap.size w W) => h.below hW)
  have hsm := h.sm
  have hcap := h.cap
  have hhi := h.hi
  have HN := Aside0.mk hn
  have HB := Aside0.mk (show b + n ≤ l.length by omega)
  have hb1 : (b : Int) ≤ 1000000 := by omega
  have hn1 : (n : Int) ≤ 1000000 := by omega
  have d1 : decide ((n : Int) > (l.length : Int) - (b : Int)) = false := decide_eq_false (by omega)
  have w1_ : wrap64 ((b : Int) + (n : Int)) = (b : Int) + (n : Int) := by unfold wrap64; omega
  obtain ⟨B', hB'⟩ : ∃ B', B' = if c = b then A else A.map (·.add (b * 1)) := ⟨_, rfl⟩
  have SL : ∀ W : World, (Instr.sliceAt 22 (.slice A l.length c) (some (.int .i64 (b : Int))) (some (.int .i64 ((b : Int) + (n : Int)))) none).run Try.prog W = .ok (.slice B' n (c - b)) W := fun W => by
    have := slice22 W A l.length c b (b + n) (by omega) (by have := HB.out; omega)
    rw [hB', show ((b : Int) + (n : Int)) = ((b + n : Nat) : Int) by push_cast; rfl, this]
    rw [Nat.add_sub_cancel_left]
  have RD := Aside0.mk (fun (W : World) (hF : Kd.F ku W (fun k => k ≠ g) A l.length l) => (show Kd.F ku W (fun k => k ≠ g) B' n ((l.drop b).take n) from by
    have := Kd.F_mid hF (show b ≤ b + n by omega) HB.out hcap
    rw [show ((l.take (b + n)).drop b) = (l.drop b).take n from by rw [List.drop_take]; congr 1; omega] at this
    have hlen : ((l.drop b).take n).length = n := by rw [List.length_take, List.length_drop]; have := HB.out; omega
    rw [hlen] at this
    rw [hB']
    exact this))
  have CB := Aside0.mk (show n ≤ c - b by have := HB.out; omega)
  clear h hn hsm hcap hhi hB'
  go_enter Try.func104, Try.ntmps104
  go_wp2_with (first | (go_at_call 36; refine LC.out.mono ?_; rintro e1 w1 ⟨rfl, nq, hw1⟩; have HW := Aside0.mk (show Below w.heap.size w w1 by rw [hw1]; exact pw_below_drewN (Below.refl _ _) _); have x := (HC.out w1 HW.out).c1; have xf := (HC.out w1 HW.out).f 1; clear hw1) | fail)
  have H2 := Aside0.mk ((HC.out w1 HW.out).set_at ((b : Int) + (n : Int)) (by omega) (by have := HB.out; omega))
  have y0 := H2.out.c0
  have y1 := H2.out.c1
  clear x xf
  have GW := Aside0.mk (grown_then (grown_of_below HW.out (some g)) (grown_set w1 g 1 (.int .i64 ((b : Int) + (n : Int)))))
  obtain ⟨w2, hw2⟩ : ∃ w2, w2 = w1.setCell ⟨g, 1, none⟩ (.int .i64 ((b : Int) + (n : Int))) := ⟨_, rfl⟩
  rw [← hw2] at H2 y0 y1 GW
  rw [← hw2]
  clear hw2
  go_quiet (fail)
  go_wp2
  go_ret
  have hbd := fun k => pw_below_drewN (Below.refl w2.heap.size w2) k
  exact ⟨B', c - b, rfl, RD.out _ (Kd.F_step H2.out.bytes fun k _ hlt => rfl), CB.out, grown_then GW.out (grown_of_below (hbd _) _), H2.out.below (hbd _)⟩
theorem scanL_at (L : Int → Int → Bool) : ∀ (l : List Int) (a n hv lf : Int), (scanL L l a n hv lf).2.2.2.2 = 0 → a < (scanL L l a n hv lf).2.2.2.1 ∧ (scanL L l a n hv lf).2.2.2.1 ≤ a + l.length
  | [], a, n, hv, lf, h => by simp [scanL] at h
  | x :: xs, a, n, hv, lf, h => by
    unfold scanL at h ⊢
    by_cases c1 : x < 128
    · rw [if_pos c1] at h ⊢
      by_cases c2 : L x lf = true
      · rw [if_pos c2]
        simp only [List.length_cons]
        omega
      · rw [if_neg c2] at h
        simp at h
    · rw [if_neg c1] at h ⊢
      by_cases c2 : lf ≤ 7
      · rw [if_pos c2] at h
        simp at h
      · rw [if_neg c2] at h ⊢
        have := scanL_at L xs (a + 1) (seriesN n x hv) (hv + 7) (lf - 7) h
        simp only [List.length_cons]
        omega
def uM (l : List Int) (a b : Int) : Int × Int × Int := uintR (scanF LU l a b)
def sM (l : List Int) (a b : Int) : Int × Int × Int := sintR (scanF LS l a b)
theorem scanF_at (L : Int → Int → Bool) (l : List Int) (a b : Int) (h : (scanF L l a b).2.2.2.2 = 0) : 0 ≤ a ∧ a < (scanF L l a b).2.2.2.1 ∧ (scanF L l a b).2.2.2.1 ≤ l.length := by
  unfold scanF at h ⊢
  split at h
  · simp at h
  · rename_i hc
    rw [if_neg hc]
    have := scanL_at L (l.drop a.toNat) a 0 0 b h
    rw [List.length_drop] at this
    omega
theorem uM_at (l : List Int) (a b : Int) (h : (uM l a b).2.2 = 0) : 0 ≤ a ∧ a < (uM l a b).2.1 ∧ (uM l a b).2.1 ≤ l.length := scanF_at LU l a b h
theorem sM_at (l : List Int) (a b : Int) (h : (sM l a b).2.2 = 0) : 0 ≤ a ∧ a < (sM l a b).2.1 ∧ (sM l a b).2.1 ≤ l.length := by
  unfold sM sintR at h ⊢
  split at h
  · rename_i hc
    rw [if_pos hc]
    exact scanF_at LS l a b hc
  · rename_i hc
    exact absurd h hc
set_option maxRecDepth 100000 in
set_option maxHeartbeats 2000000 in
theorem number24_yes (h : Cur w g A c l a e) (b : Int) (he : (uM l a b).2.2 = 0) : Calls Try.prog 102 #[.pointer (some ⟨g, 0, none⟩), .func (.func 24) #[] #[], .int .i64 b] w (Did w g A c l (.int .u64 (uM l a b).1) (uM l a b).2.1 e) := by
  have UC := Aside0.mk (fun (W : World) (hW : Below w.heap.size w W) => (show Calls Try.prog 24 #[.slice A l.length c, .int .i64 a, .int .i64 b] W fun e w' => e = .returned (.tuple #[.int .u64 (uM l a b).1, .int .i64 (uM l a b).2.1, .int .i64 (uM l a b).2.2]) ∧ Below W.heap.size W w' from Uint_calls A c l a b W (by have := h.sm; omega) h.cap (Kd.F_now (h.below hW).bytes) h.ok))
  have AT := Aside0.mk (uM_at l a b he)
  obtain ⟨r, hr⟩ : ∃ r, r = uM l a b := ⟨_, rfl⟩
  rw [← hr] at UC AT he ⊢
  obtain ⟨n, nx, er⟩ := r
  simp only at UC AT he ⊢
  subst he
  have HC := Aside0.mk (fun (W : World) (hW : Below w.heap.size w W) => h.below hW)
  have x0 := h.c0
  have x1 := h.c1
  clear h hr
  go_enter Try.func102, Try.ntmps102
  go_wp2
  go_region_with (go_at_call 24; refine (UC.out _ (below_drew (Below.refl _ _))).mono ?_; rintro e1 w1 ⟨rfl, hb⟩; have HW := Aside0.mk (below_then (below_drew (Below.refl w.heap.size w)) (Nat.le_refl _) hb); have y1 := (HC.out w1 HW.out).c1; have yf := (HC.out w1 HW.out).f 1; clear hb)
  all_goals
    go_wp2
    go_ret
    exact ⟨rfl, grown_then (grown_of_below HW.out (some g)) (grown_set w1 g 1 (.int .i64 nx)), (HC.out w1 HW.out).set_at nx (by have := AT.out; omega) AT.out.2.2⟩
set_option maxRecDepth 100000 in
set_option maxHeartbeats 2000000 in
theorem number24_no (h : Cur w g A c l a e) (b : Int) (he : (uM l a b).2.2 ≠ 0) : Calls Try.prog 102 #[.pointer (some ⟨g, 0, none⟩), .func (.func 24) #[] #[], .int .i64 b] w (Did w g A c l (.int .u64 0) a (fl (uM l a b).2.2 e)) := by
  have UC := Aside0.mk (fun (W : World) (hW : Below w.heap.size w W) => (show Calls Try.prog 24 #[.slice A l.length c, .int .i64 a, .int .i64 b] W fun e w' => e = .returned (.tuple #[.int .u64 (uM l a b).1, .int .i64 (uM l a b).2.1, .int .i64 (uM l a b).2.2]) ∧ Below W.heap.size W w' from Uint_calls A c l a b W (by have := h.sm; omega) h.cap (Kd.F_now (h.below hW).bytes) h.ok))
  obtain ⟨r, hr⟩ : ∃ r, r = uM l a b := ⟨_, rfl⟩
  rw [← hr] at UC he ⊢
  obtain ⟨n, nx, er⟩ := r
  simp only at UC he ⊢
  have d1 : ((er : Int) != 0) = true := by rw [bne_iff_ne]; exact he
  have HC := Aside0.mk (fun (W : World) (hW : Below w.heap.size w W) => h.below hW)
  have FC := Aside0.mk (fun (W : World) (hW : Below w.heap.size w W) => fail_any (h.below hW) er he)
  have x0 := h.c0
  have x1 := h.c1
  clear h hr he
  go_enter Try.func102, Try.ntmps102
  go_wp2
  go_region_with (go_at_call 24; refine (UC.out _ (below_drew (Below.refl _ _))).mono ?_; rintro e1 w1 ⟨rfl, hb⟩; have HW := Aside0.mk (below_then (below_drew (Below.refl w.heap.size w)) (Nat.le_refl _) hb); have y1 := (HC.out w1 HW.out).c1; clear hb)
  all_goals
    go_wp2
    go_region_with (go_at_call 63; refine (FC.out _ (below_drew HW.out)).mono ?_; rintro e1 w2 ⟨rfl, hg, hc⟩; have HG := Aside0.mk hg; have HC2 := Aside0.mk hc; clear hg hc)
    all_goals
      go_wp2
      go_ret
      exact ⟨rfl, grown_then (grown_of_below (below_drew HW.out) _) HG.out, HC2.out⟩
set_option maxRecDepth 100000 in
set_option maxHeartbeats 2000000 in
theorem number25_yes (h : Cur w g A c l a e) (b : Int) (he : (sM l a b).2.2 = 0) : Calls Try.prog 102 #[.pointer (some ⟨g, 0, none⟩), .func (.func 25) #[] #[], .int .i64 b] w (Did w g A c l (.int .u64 (sM l a b).1) (sM l a b).2.1 e) := by
  have UC := Aside0.mk (fun (W : World) (hW : Below w.heap.size w W) => (show Calls Try.prog 25 #[.slice A l.length c, .int .i64 a, .int .i64 b] W fun e w' => e = .returned (.tuple #[.int .u64 (sM l a b).1, .int .i64 (sM l a b).2.1, .int .i64 (sM l a b).2.2]) ∧ Below W.heap.size W w' from Sint_calls A c l a b W (by have := h.sm; omega) h.cap (Kd.F_now (h.below hW).bytes) h.ok))
  have AT := Aside0.mk (sM_at l a b he)
  obtain ⟨r, hr⟩ : ∃ r, r = sM l a b := ⟨_, rfl⟩
  rw [← hr] at UC AT he ⊢
  obtain ⟨n, nx, er⟩ := r
  simp only at UC AT he ⊢
  subst he
  have HC := Aside0.mk (fun (W : World) (hW : Below w.heap.size w W) => h.below hW)
  have x0 := h.c0
  have x1 := h.c1
  clear h hr
  go_enter Try.func102, Try.ntmps102
  go_wp2
  go_region_with (go_at_call 25; refine (UC.out _ (below_drew (Below.refl _ _))).mono ?_; rintro e1 w1 ⟨rfl, hb⟩; have HW := Aside0.mk (below_then (below_drew (Below.refl w.heap.size w)) (Nat.le_refl _) hb); have y1 := (HC.out w1 HW.out).c1; have yf := (HC.out w1 HW.out).f 1; clear hb)
  all_goals
    go_wp2
    go_ret
    exact ⟨rfl, grown_then (grown_of_below HW.out (some g)) (grown_set w1 g 1 (.int .i64 nx)), (HC.out w1 HW.out).set_at nx (by have := AT.out; omega) AT.out.2.2⟩
set_option maxRecDepth 100000 in
set_option maxHeartbeats 2000000 in
theorem number25_no (h : Cur w g A c l a e) (b : Int) (he : (sM l a b).2.2 ≠ 0) : Calls Try.prog 102 #[.pointer (some ⟨g, 0, none⟩), .func (.func 25) #[] #[], .int .i64 b] w (Did w g A c l (.int .u64 0) a (fl (sM l a b).2.2 e)) := by
  have UC := Aside0.mk (fun (W : World) (hW : Below w.heap.size w W) => (show Calls Try.prog 25 #[.slice A l.length c, .int .i64 a, .int .i64 b] W fun e w' => e = .returned (.tuple #[.int .u64 (sM l a b).1, .int .i64 (sM l a b).2.1, .int .i64 (sM l a b).2.2]) ∧ Below W.heap.size W w' from Sint_calls A c l a b W (by have := h.sm; omega) h.cap (Kd.F_now (h.below hW).bytes) h.ok))
  obtain ⟨r, hr⟩ : ∃ r, r = sM l a b := ⟨_, rfl⟩
  rw [← hr] at UC he ⊢
  obtain ⟨n, nx, er⟩ := r
  simp only at UC he ⊢
  have d1 : ((er : Int) != 0) = true := by rw [bne_iff_ne]; exact he
  have HC := Aside0.mk (fun (W : World) (hW : Below w.heap.size w W) => h.below hW)
  have FC := Aside0.mk (fun (W : World) (hW : Below w.heap.size w W) => fail_any (h.below hW) er he)
  have x0 := h.c0
  have x1 := h.c1
  clear h hr he
  go_enter Try.func102, Try.ntmps102
  go_wp2
  go_region_with (go_at_call 25; refine (UC.out _ (below_drew (Below.refl _ _))).mono ?_; rintro e1 w1 ⟨rfl, hb⟩; have HW := Aside0.mk (below_then (below_drew (Below.refl w.heap.size w)) (Nat.le_refl _) hb); have y1 := (HC.out w1 HW.out).c1; clear hb)
  all_goals
    go_wp2
    go_region_with (go_at_call 63; refine (FC.out _ (below_drew HW.out)).mono ?_; rintro e1 w2 ⟨rfl, hg, hc⟩; have HG := Aside0.mk hg; have HC2 := Aside0.mk hc; clear hg hc)
    all_goals
      go_wp2
      go_ret
      exact ⟨rfl, grown_then (grown_of_below (below_drew HW.out) _) HG.out, HC2.out⟩
end
end Go.Proofs.Ytjhdnlgbboboiaa.Scan

/- The walks of reads, at each of its plain types. -/
namespace Go.Proofs.Ytjhdnlgbboboiaa.Scan
open Go.Proofs.Ytjhdnlgbboboiaa.Leb Go.RowKit Go.Proofs.YtjhdnlgbboboiaaW.PrintWords Go.Proofs.YtjhdnlgbboboiaaW.PrintLast Go.Proofs.YtjhdnlgbboboiaaW.PrintMore Go.Proofs.Ytjhdnlgbboboiaa.Base
set_option linter.unusedVariables false
set_option linter.unusedSimpArgs false
/-- What a call answers, where its result is told by a property. -/
def DidP (w : World) (g : Nat) (A : Option Addr) (c : Nat) (l : List Int) (P : Value → World → Prop) (a e : Int) (en : Ending) (w' : World) : Prop := ∃ r, en = .returned r ∧ P r w' ∧ w.grownBy w' (some g) ∧ Cur w' g A c l a e
section
variable {w : World} {g c : Nat} {A : Option Addr} {l : List Int} {a e : Int}
theorem Did.p {r : Value} {en : Ending} {w' : World} (h : Did w g A c l r a e en w') : DidP w g A c l (fun v _ => v = r) a e en w' := ⟨r, h.1, rfl, h.2.1, h.2.2⟩
theorem reads98_nil (w : World) (K : Nat) (caps : Array Value) : Calls Try.prog 98 #[.pointer none, .func (.func K) #[] caps] w fun en w' => en = .returned (.int .u8 0) ∧ w = w' := by
  go_enter Try.func98, Try.ntmps98
  go_wp2
  go_ret
  exact ⟨rfl, rfl⟩
theorem reads98_off (h : Cur w g A c l a e) (he : e ≠ 0) (K : Nat) (caps : Array Value) : Calls Try.prog 98 #[.pointer (some ⟨g, 0, none⟩), .func (.func K) #[] caps] w (Did w g A c l (.int .u8 0) a e) := by
  have GC := Aside0.mk (good_calls h)
  rw [show (e == 0) = false from beq_eq_false_iff_ne.2 he] at GC
  have H := Aside0.mk h
  clear h he
  go_enter Try.func98, Try.ntmps98
  go_wp2_with (first | (go_at_call 97; refine GC.out.mono ?_; rintro e1 w1 ⟨rfl, rfl⟩) | fail)
  go_ret
  exact ⟨rfl, grown_refl _ _, H.out⟩
theorem reads98_ok (h : Cur w g A c l a 0) (K : Nat) (caps : Array Value) (hcf : ∀ w : World, Sem.run Try.prog (callFunc K caps) w = .ok (.enter K caps) w) (P : Value → World → Prop) (a1 : Int)
    (hK : Calls Try.prog K caps w (DidP w g A c l P a1 0)) : Calls Try.prog 98 #[.pointer (some ⟨g, 0, none⟩), .func (.func K) #[] caps] w (DidP w g A c l P a1 0) := by
  have GC := Aside0.mk (good_calls h)
  have KC := Aside0.mk hK
  have x1 := h.c1
  clear h hK
  go_enter Try.func98, Try.ntmps98
  go_wp2_with (first
    | (go_at_call 97; refine GC.out.mono ?_; rintro e1 w1 ⟨rfl, rfl⟩)
    | (refine KC.out.mono ?_; rintro e1 w2 ⟨r, rfl, hp, hg, hc⟩; have HP := Aside0.mk hp; have HG := Aside0.mk hg; have HC := Aside0.mk hc; have GC2 := Aside0.mk (good_calls hc); clear hp hg hc)
    | (refine GC2.out.mono ?_; rintro e1 w3 ⟨rfl, rfl⟩)
    | fail)
  go_ret
  exact ⟨_, rfl, HP.out, HG.out, HC.out⟩
theorem reads98_bad (h : Cur w g A c l a 0) (K : Nat) (caps : Array Value) (hcf : ∀ w : World, Sem.run Try.prog (callFunc K caps) w = .ok (.enter K caps) w) (P : Value → World → Prop) (a1 e1 : Int) (he : e1 ≠ 0)
    (hK : Calls Try.prog K caps w (DidP w g A c l P a1 e1)) : Calls Try.prog 98 #[.pointer (some ⟨g, 0, none⟩), .func (.func K) #[] caps] w (Did w g A c l (.int .u8 0) a e1) := by
  have GC := Aside0.mk (good_calls h)
  have KC := Aside0.mk hK
  have AB := Aside0.mk (show (0 ≤ a ∧ a ≤ (l.length : Int)) from ⟨h.lo, h.hi⟩)
  have BE := Aside0.mk (show (e1 == 0) = false from beq_eq_false_iff_ne.2 he)
  have x1 := h.c1
  clear h hK he
  go_enter Try.func98, Try.ntmps98
  go_wp2_with (first
    | (go_at_call 97; refine GC.out.mono ?_; rintro e1 w1 ⟨rfl, rfl⟩)
    | (refine KC.out.mono ?_; rintro e1 w2 ⟨r, rfl, hp, hg, hc⟩; have HG := Aside0.mk hg; have HC := Aside0.mk hc; have gc2 := good_calls hc; rw [BE.out] at gc2; have GC2 := Aside0.mk gc2; have y1 := hc.c1; have yf := hc.f 1; clear hp hg hc gc2)
    | (refine GC2.out.mono ?_; rintro e1 w3 ⟨rfl, rfl⟩)
    | fail)
  go_ret
  exact ⟨rfl, grown_then HG.out (grown_set _ _ _ _), HC.out.set_at a AB.out.1 AB.out.2⟩
theorem reads100_nil (w : World) (K : Nat) (caps : Array Value) : Calls Try.prog 100 #[.pointer none, .func (.func K) #[] caps] w fun en w' => en = .returned (.int .u32 0) ∧ w = w' := by
  go_enter Try.func100, Try.ntmps100
  go_wp2
  go_ret
  exact ⟨rfl, rfl⟩
theorem reads100_off (h : Cur w g A c l a e) (he : e ≠ 0) (K : Nat) (caps : Array Value) : Calls Try.prog 100 #[.pointer (some ⟨g, 0, none⟩), .func (.func K) #[] caps] w (Did w g A c l (.int .u32 0) a e) := by
  have GC := Aside0.mk (good_calls h)
  rw [show (e == 0) = false from beq_eq_false_iff_ne.2 he] at GC
  have H := Aside0.mk h
  clear h he
  go_enter Try.func100, Try.ntmps100
  go_wp2_with (first | (go_at_call 97; refine GC.out.mono ?_; rintro e1 w1 ⟨rfl, rfl⟩) | fail)
  go_ret
  exact ⟨rfl, grown_refl _ _, H.out⟩
theorem reads100_ok (h : Cur w g A c l a 0) (K : Nat) (caps : Array Value) (hcf : ∀ w : World, Sem.run Try.prog (callFunc K caps) w = .ok (.enter K caps) w) (P : Value → World → Prop) (a1 : Int)
    (hK : Calls Try.prog K caps w (DidP w g A c l P a1 0)) : Calls Try.prog 100 #[.pointer (some ⟨g, 0, none⟩), .func (.func K) #[] caps] w (DidP w g A c l P a1 0) := by
  have GC := Aside0.mk (good_calls h)
  have KC := Aside0.mk hK
  have x1 := h.c1
  clear h hK
  go_enter Try.func100, Try.ntmps100
  go_wp2_with (first
    | (go_at_call 97; refine GC.out.mono ?_; rintro e1 w1 ⟨rfl, rfl⟩)
    | (refine KC.out.mono ?_; rintro e1 w2 ⟨r, rfl, hp, hg, hc⟩; have HP := Aside0.mk hp; have HG := Aside0.mk hg; have HC := Aside0.mk hc; have GC2 := Aside0.mk (good_calls hc); clear hp hg hc)
    | (refine GC2.out.mono ?_; rintro e1 w3 ⟨rfl, rfl⟩)
    | fail)
  go_ret
  exact ⟨_, rfl, HP.out, HG.out, HC.out⟩
theorem reads100_bad (h : Cur w g A c l a 0) (K : Nat) (caps : Array Value) (hcf : ∀ w : World, Sem.run Try.prog (callFunc K caps) w = .ok (.enter K caps) w) (P : Value → World → Prop) (a1 e1 : Int) (he : e1 ≠ 0)
    (hK : Calls Try.prog K caps w (DidP w g A c l P a1 e1)) : Calls Try.prog 100 #[.pointer (some ⟨g, 0, none⟩), .func (.func K) #[] caps] w (Did w g A c l (.int .u32 0) a e1) := by
  have GC := Aside0.mk (good_calls h)
  have KC := Aside0.mk hK
  have AB := Aside0.mk (show (0 ≤ a ∧ a ≤ (l.length : Int)) from ⟨h.lo, h.hi⟩)
  have BE := Aside0.mk (show (e1 == 0) = false from beq_eq_false_iff_ne.2 he)
  have x1 := h.c1
  clear h hK he
  go_enter Try.func100, Try.ntmps100
  go_wp2_with (first
    | (go_at_call 97; refine GC.out.mono ?_; rintro e1 w1 ⟨rfl, rfl⟩)
    | (refine KC.out.mono ?_; rintro e1 w2 ⟨r, rfl, hp, hg, hc⟩; have HG := Aside0.mk hg; have HC := Aside0.mk hc; have gc2 := good_calls hc; rw [BE.out] at gc2; have GC2 := Aside0.mk gc2; have y1 := hc.c1; have yf := hc.f 1; clear hp hg hc gc2)
    | (refine GC2.out.mono ?_; rintro e1 w3 ⟨rfl, rfl⟩)
    | fail)
  go_ret
  exact ⟨rfl, grown_then HG.out (grown_set _ _ _ _), HC.out.set_at a AB.out.1 AB.out.2⟩
theorem reads106_nil (w : World) (K : Nat) (caps : Array Value) : Calls Try.prog 106 #[.pointer none, .func (.func K) #[] caps] w fun en w' => en = .returned (.int .u64 0) ∧ w = w' := by
  go_enter Try.func106, Try.ntmps106
  go_wp2
  go_ret
  exact ⟨rfl, rfl⟩
theorem reads106_off (h : Cur w g A c l a e) (he : e ≠ 0) (K : Nat) (caps : Array Value) : Calls Try.prog 106 #[.pointer (some ⟨g, 0, none⟩), .func (.func K) #[] caps] w (Did w g A c l (.int .u64 0) a e) := by
  have GC := Aside0.mk (good_calls h)
  rw [show (e == 0) = false from beq_eq_false_iff_ne.2 he] at GC
  have H := Aside0.mk h
  clear h he
  go_enter Try.func106, Try.ntmps106
  go_wp2_with (first | (go_at_call 97; refine GC.out.mono ?_; rintro e1 w1 ⟨rfl, rfl⟩) | fail)
  go_ret
  exact ⟨rfl, grown_refl _ _, H.out⟩
theorem reads106_ok (h : Cur w g A c l a 0) (K : Nat) (caps : Array Value) (hcf : ∀ w : World, Sem.run Try.prog (callFunc K caps) w = .ok (.enter K caps) w) (P : Value → World → Prop) (a1 : Int)
    (hK : Calls Try.prog K caps w (DidP w g A c l P a1 0)) : Calls Try.prog 106 #[.pointer (some ⟨g, 0, none⟩), .func (.func K) #[] caps] w (DidP w g A c l P a1 0) := by
  have GC := Aside0.mk (good_calls h)
  have KC := Aside0.mk hK
  have x1 := h.c1
  clear h hK
  go_enter Try.func106, Try.ntmps106
  go_wp2_with (first
    | (go_at_call 97; refine GC.out.mono ?_; rintro e1 w1 ⟨rfl, rfl⟩)
    | (refine KC.out.mono ?_; rintro e1 w2 ⟨r, rfl, hp, hg, hc⟩; have HP := Aside0.mk hp; have HG := Aside0.mk hg; have HC := Aside0.mk hc; have GC2 := Aside0.mk (good_calls hc); clear hp hg hc)
    | (refine GC2.out.mono ?_; rintro e1 w3 ⟨rfl, rfl⟩)
    | fail)
  go_ret
  exact ⟨_, rfl, HP.out, HG.out, HC.out⟩
theorem reads106_bad (h : Cur w g A c l a 0) (K : Nat) (caps : Array Value) (hcf : ∀ w : World, Sem.run Try.prog (callFunc K caps) w = .ok (.enter K caps) w) (P : Value → World → Prop) (a1 e1 : Int) (he : e1 ≠ 0)
    (hK : Calls Try.prog K caps w (DidP w g A c l P a1 e1)) : Calls Try.prog 106 #[.pointer (some ⟨g, 0, none⟩), .func (.func K) #[] caps] w (Did w g A c l (.int .u64 0) a e1) := by
  have GC := Aside0.mk (good_calls h)
  have KC := Aside0.mk hK
  have AB := Aside0.mk (show (0 ≤ a ∧ a ≤ (l.length : Int)) from ⟨h.lo, h.hi⟩)
  have BE := Aside0.mk (show (e1 == 0) = false from beq_eq_false_iff_ne.2 he)
  have x1 := h.c1
  clear h hK he
  go_enter Try.func106, Try.ntmps106
  go_wp2_with (first
    | (go_at_call 97; refine GC.out.mono ?_; rintro e1 w1 ⟨rfl, rfl⟩)
    | (refine KC.out.mono ?_; rintro e1 w2 ⟨r, rfl, hp, hg, hc⟩; have HG := Aside0.mk hg; have HC := Aside0.mk hc; have gc2 := good_calls hc; rw [BE.out] at gc2; have GC2 := Aside0.mk gc2; have y1 := hc.c1; have yf := hc.f 1; clear hp hg hc gc2)
    | (refine GC2.out.mono ?_; rintro e1 w3 ⟨rfl, rfl⟩)
    | fail)
  go_ret
  exact ⟨rfl, grown_then HG.out (grown_set _ _ _ _), HC.out.set_at a AB.out.1 AB.out.2⟩
theorem reads113_nil (w : World) (K : Nat) (caps : Array Value) : Calls Try.prog 113 #[.pointer none, .func (.func K) #[] caps] w fun en w' => en = .returned (.int .i64 0) ∧ w = w' := by
  go_enter Try.func113, Try.ntmps113
  go_wp2
  go_ret
  exact ⟨rfl, rfl⟩
theorem reads113_off (h : Cur w g A c l a e) (he : e ≠ 0) (K : Nat) (caps : Array Value) : Calls Try.prog 113 #[.pointer (some ⟨g, 0, none⟩), .func (.func K) #[] caps] w (Did w g A c l (.int .i64 0) a e) := by
  have GC := Aside0.mk (good_calls h)
  rw [show (e == 0) = false from beq_eq_false_iff_ne.2 he] at GC
  have H := Aside0.mk h
  clear h he
  go_enter Try.func113, Try.ntmps113
  go_wp2_with (first | (go_at_call 97; refine GC.out.mono ?_; rintro e1 w1 ⟨rfl, rfl⟩) | fail)
  go_ret
  exact ⟨rfl, grown_refl _ _, H.out⟩
theorem reads113_ok (h : Cur w g A c l a 0) (K : Nat) (caps : Array Value) (hcf : ∀ w : World, Sem.run Try.prog (callFunc K caps) w = .ok (.enter K caps) w) (P : Value → World → Prop) (a1 : Int)
    (hK : Calls Try.prog K caps w (DidP w g A c l P a1 0)) : Calls Try.prog 113 #[.pointer (some ⟨g, 0, none⟩), .func (.func K) #[] caps] w (DidP w g A c l P a1 0) := by
  have GC := Aside0.mk (good_calls h)
  have KC := Aside0.mk hK
  have x1 := h.c1
  clear h hK
  go_enter Try.func113, Try.ntmps113
  go_wp2_with (first
    | (go_at_call 97; refine GC.out.mono ?_; rintro e1 w1 ⟨rfl, rfl⟩)
    | (refine KC.out.mono ?_; rintro e1 w2 ⟨r, rfl, hp, hg, hc⟩; have HP := Aside0.mk hp; have HG := Aside0.mk hg; have HC := Aside0.mk hc; have GC2 := Aside0.mk (good_calls hc); clear hp hg hc)
    | (refine GC2.out.mono ?_; rintro e1 w3 ⟨rfl, rfl⟩)
    | fail)
  go_ret
  exact ⟨_, rfl, HP.out, HG.out, HC.out⟩
theorem reads113_bad (h : Cur w g A c l a 0) (K : Nat) (caps : Array Value) (hcf : ∀ w : World, Sem.run Try.prog (callFunc K caps) w = .ok (.enter K caps) w) (P : Value → World → Prop) (a1 e1 : Int) (he : e1 ≠ 0)
    (hK : Calls Try.prog K caps w (DidP w g A c l P a1 e1)) : Calls Try.prog 113 #[.pointer (some ⟨g, 0, none⟩), .func (.func K) #[] caps] w (Did w g A c l (.int .i64 0) a e1) := by
  have GC := Aside0.mk (good_calls h)
  have KC := Aside0.mk hK
  have AB := Aside0.mk (show (0 ≤ a ∧ a ≤ (l.length : Int)) from ⟨h.lo, h.hi⟩)
  have BE := Aside0.mk (show (e1 == 0) = false from beq_eq_false_iff_ne.2 he)
  have x1 := h.c1
  clear h hK he
  go_enter Try.func113, Try.ntmps113
  go_wp2_with (first
    | (go_at_call 97; refine GC.out.mono ?_; rintro e1 w1 ⟨rfl, rfl⟩)
    | (refine KC.out.mono ?_; rintro e1 w2 ⟨r, rfl, hp, hg, hc⟩; have HG := Aside0.mk hg; have HC := Aside0.mk hc; have gc2 := good_calls hc; rw [BE.out] at gc2; have GC2 := Aside0.mk gc2; have y1 := hc.c1; have yf := hc.f 1; clear hp hg hc gc2)
    | (refine GC2.out.mono ?_; rintro e1 w3 ⟨rfl, rfl⟩)
    | fail)
  go_ret
  exact ⟨rfl, grown_then HG.out (grown_set _ _ _ _), HC.out.set_at a AB.out.1 AB.out.2⟩
theorem reads111_nil (w : World) (K : Nat) (caps : Array Value) : Calls Try.prog 111 #[.pointer none, .func (.func K) #[] caps] w fun en w' => en = .returned (.string ⟨#[]⟩) ∧ w = w' := by
  go_enter Try.func111, Try.ntmps111
  go_wp2
  go_ret
  exact ⟨rfl, rfl⟩
theorem reads111_off (h : Cur w g A c l a e) (he : e ≠ 0) (K : Nat) (caps : Array Value) : Calls Try.prog 111 #[.pointer (some ⟨g, 0, none⟩), .func (.func K) #[] caps] w (Did w g A c l (.string ⟨#[]⟩) a e) := by
  have GC := Aside0.mk (good_calls h)
  rw [show (e == 0) = false from beq_eq_false_iff_ne.2 he] at GC
  have H := Aside0.mk h
  clear h he
  go_enter Try.func111, Try.ntmps111
  go_wp2_with (first | (go_at_call 97; refine GC.out.mono ?_; rintro e1 w1 ⟨rfl, rfl⟩) | fail)
  go_ret
  exact ⟨rfl, grown_refl _ _, H.out⟩
theorem reads111_ok (h : Cur w g A c l a 0) (K : Nat) (caps : Array Value) (hcf : ∀ w : World, Sem.run Try.prog (callFunc K caps) w = .ok (.enter K caps) w) (P : Value → World → Prop) (a1 : Int)
    (hK : Calls Try.prog K caps w (DidP w g A c l P a1 0)) : Calls Try.prog 111 #[.pointer (some ⟨g, 0, none⟩), .func (.func K) #[] caps] w (DidP w g A c l P a1 0) := by
  have GC := Aside0.mk (good_calls h)
  have KC := Aside0.mk hK
  have x1 := h.c1
  clear h hK
  go_enter Try.func111, Try.ntmps111
  go_wp2_with (first
    | (go_at_call 97; refine GC.out.mono ?_; rintro e1 w1 ⟨rfl, rfl⟩)
    | (refine KC.out.mono ?_; rintro e1 w2 ⟨r, rfl, hp, hg, hc⟩; have HP := Aside0.mk hp; have HG := Aside0.mk hg; have HC := Aside0.mk hc; have GC2 := Aside0.mk (good_calls hc); clear hp hg hc)
    | (refine GC2.out.mono ?_; rintro e1 w3 ⟨rfl, rfl⟩)
    | fail)
  go_ret
  exact ⟨_, rfl, HP.out, HG.out, HC.out⟩
theorem reads111_bad (h : Cur w g A c l a 0) (K : Nat) (caps : Array Value) (hcf : ∀ w : World, Sem.run Try.prog (callFunc K caps) w = .ok (.enter K caps) w) (P : Value → World → Prop) (a1 e1 : Int) (he : e1 ≠ 0)
    (hK : Calls Try.prog K caps w (DidP w g A c l P a1 e1)) : Calls Try.prog 111 #[.pointer (some ⟨g, 0, none⟩), .func (.func K) #[] caps] w (Did w g A c l (.string ⟨#[]⟩) a e1) := by
  have GC := Aside0.mk (good_calls h)
  have KC := Aside0.mk hK
  have AB := Aside0.mk (show (0 ≤ a ∧ a ≤ (l.length : Int)) from ⟨h.lo, h.hi⟩)
  have BE := Aside0.mk (show (e1 == 0) = false from beq_eq_false_iff_ne.2 he)
  have x1 := h.c1
  clear h hK he
  go_enter Try.func111, Try.ntmps111
  go_wp2_with (first
    | (go_at_call 97; refine GC.out.mono ?_; rintro e1 w1 ⟨rfl, rfl⟩)
    | (refine KC.out.mono ?_; rintro e1 w2 ⟨r, rfl, hp, hg, hc⟩; have HG := Aside0.mk hg; have HC := Aside0.mk hc; have gc2 := good_calls hc; rw [BE.out] at gc2; have GC2 := Aside0.mk gc2; have y1 := hc.c1; have yf := hc.f 1; clear hp hg hc gc2)
    | (refine GC2.out.mono ?_; rintro e1 w3 ⟨rfl, rfl⟩)
    | fail)
  go_ret
  exact ⟨rfl, grown_then HG.out (grown_set _ _ _ _), HC.out.set_at a AB.out.1 AB.out.2⟩
theorem reads109_nil (w : World) (K : Nat) (caps : Array Value) : Calls Try.prog 109 #[.pointer none, .func (.func K) #[] caps] w fun en w' => en = .returned (.slice none 0 0) ∧ w = w' := by
  go_enter Try.func109, Try.ntmps109
  go_wp2
  go_ret
  exact ⟨rfl, rfl⟩
theorem reads109_off (h : Cur w g A c l a e) (he : e ≠ 0) (K : Nat) (caps : Array Value) : Calls Try.prog 109 #[.pointer (some ⟨g, 0, none⟩), .func (.func K) #[] caps] w (Did w g A c l (.slice none 0 0) a e) := by
  have GC := Aside0.mk (good_calls h)
  rw [show (e == 0) = false from beq_eq_false_iff_ne.2 he] at GC
  have H := Aside0.mk h
  clear h he
  go_enter Try.func109, Try.ntmps109
  go_wp2_with (first | (go_at_call 97; refine GC.out.mono ?_; rintro e1 w1 ⟨rfl, rfl⟩) | fail)
  go_ret
  exact ⟨rfl, grown_refl _ _, H.out⟩
theorem reads109_ok (h : Cur w g A c l a 0) (K : Nat) (caps : Array Value) (hcf : ∀ w : World, Sem.run Try.prog (callFunc K caps) w = .ok (.enter K caps) w) (P : Value → World → Prop) (a1 : Int)
    (hK : Calls Try.prog K caps w (DidP w g A c l P a1 0)) : Calls Try.prog 109 #[.pointer (some ⟨g, 0, none⟩), .func (.func K) #[] caps] w (DidP w g A c l P a1 0) := by
  have GC := Aside0.mk (good_calls h)
  have KC := Aside0.mk hK
  have x1 := h.c1
  clear h hK
  go_enter Try.func109, Try.ntmps109
  go_wp2_with (first
    | (go_at_call 97; refine GC.out.mono ?_; rintro e1 w1 ⟨rfl, rfl⟩)
    | (refine KC.out.mono ?_; rintro e1 w2 ⟨r, rfl, hp, hg, hc⟩; have HP := Aside0.mk hp; have HG := Aside0.mk hg; have HC := Aside0.mk hc; have GC2 := Aside0.mk (good_calls hc); clear hp hg hc)
    | (refine GC2.out.mono ?_; rintro e1 w3 ⟨rfl, rfl⟩)
    | fail)
  go_ret
  exact ⟨_, rfl, HP.out, HG.out, HC.out⟩
theorem reads109_bad (h : Cur w g A c l a 0) (K : Nat) (caps : Array Value) (hcf : ∀ w : World, Sem.run Try.prog (callFunc K caps) w = .ok (.enter K caps) w) (P : Value → World → Prop) (a1 e1 : Int) (he : e1 ≠ 0)
    (hK : Calls Try.prog K caps w (DidP w g A c l P a1 e1)) : Calls Try.prog 109 #[.pointer (some ⟨g, 0, none⟩), .func (.func K) #[] caps] w (Did w g A c l (.slice none 0 0) a e1) := by
  have GC := Aside0.mk (good_calls h)
  have KC := Aside0.mk hK
  have AB := Aside0.mk (show (0 ≤ a ∧ a ≤ (l.length : Int)) from ⟨h.lo, h.hi⟩)
  have BE := Aside0.mk (show (e1 == 0) = false from beq_eq_false_iff_ne.2 he)
  have x1 := h.c1
  clear h hK he
  go_enter Try.func109, Try.ntmps109
  go_wp2_with (first
    | (go_at_call 97; refine GC.out.mono ?_; rintro e1 w1 ⟨rfl, rfl⟩)
    | (refine KC.out.mono ?_; rintro e1 w2 ⟨r, rfl, hp, hg, hc⟩; have HG := Aside0.mk hg; have HC := Aside0.mk hc; have gc2 := good_calls hc; rw [BE.out] at gc2; have GC2 := Aside0.mk gc2; have y1 := hc.c1; have yf := hc.f 1; clear hp hg hc gc2)
    | (refine GC2.out.mono ?_; rintro e1 w3 ⟨rfl, rfl⟩)
    | fail)
  go_ret
  exact ⟨rfl, grown_then HG.out (grown_set _ _ _ _), HC.out.set_at a AB.out.1 AB.out.2⟩
end
end Go.Proofs.Ytjhdnlgbboboiaa.Scan

/- The walks of Byte, U32, S32, S64. -/
namespace Go.Proofs.Ytjhdnlgbboboiaa.Scan
open Go.Proofs.Ytjhdnlgbboboiaa.Leb Go.RowKit Go.Proofs.YtjhdnlgbboboiaaW.PrintWords Go.Proofs.YtjhdnlgbboboiaaW.PrintLast Go.Proofs.YtjhdnlgbboboiaaW.PrintMore Go.Proofs.Ytjhdnlgbboboiaa.Base
set_option linter.unusedVariables false
set_option linter.unusedSimpArgs false
/-- What is read, if nothing has failed; if it fails the place is what it was. -/
def rM {α : Type} (z : α) (r : α × Int × Int) (a : Int) : α × Int × Int := if r.2.2 = 0 then r else (z, a, r.2.2)
def readsM {α : Type} (z : α) (r : α × Int × Int) (a e : Int) : α × Int × Int := if e = 0 then rM z r a else (z, a, e)
def byteB (l : List Int) (a : Int) : Int × Int × Int := if 1 > (l.length : Int) - a then (0, a, 100) else (rd l a, a + 1, 0)
def byteM (l : List Int) (a e : Int) : Int × Int × Int := readsM 0 (byteB l a) a e
def u32B (l : List Int) (a : Int) : Int × Int × Int := if (uM l a 32).2.2 = 0 then ((uM l a 32).1 % 4294967296, (uM l a 32).2.1, 0) else (0, a, (uM l a 32).2.2)
def u32M (l : List Int) (a e : Int) : Int × Int × Int := readsM 0 (u32B l a) a e
def s32B (l : List Int) (a : Int) : Int × Int × Int := if (sM l a 32).2.2 = 0 then ((sM l a 32).1 % 4294967296, (sM l a 32).2.1, 0) else (0, a, (sM l a 32).2.2)
def s32M (l : List Int) (a e : Int) : Int × Int × Int := readsM 0 (s32B l a) a e
def s64B (l : List Int) (a : Int) : Int × Int × Int := if (sM l a 64).2.2 = 0 then ((sM l a 64).1, (sM l a 64).2.1, 0) else (0, a, (sM l a 64).2.2)
def s64M (l : List Int) (a e : Int) : Int × Int × Int := readsM 0 (s64B l a) a e
section
variable {w : World} {g c : Nat} {A : Option Addr} {l : List Int} {a e : Int}
theorem reads98_any (h : Cur w g A c l a 0) (K : Nat) (caps : Array Value) (hcf : ∀ w : World, Sem.run Try.prog (callFunc K caps) w = .ok (.enter K caps) w) (r : Int × Int × Int)
    (hK : Calls Try.prog K caps w (Did w g A c l (.int .u8 r.1) r.2.1 r.2.2)) : Calls Try.prog 98 #[.pointer (some ⟨g, 0, none⟩), .func (.func K) #[] caps] w (Did w g A c l (.int .u8 (rM 0 r a).1) (rM 0 r a).2.1 (rM 0 r a).2.2) := by
  obtain ⟨v, a1, e1⟩ := r
  unfold rM
  by_cases he : e1 = 0
  · subst he
    simp only [if_true]
    refine (reads98_ok h K caps hcf (fun x _ => x = .int .u8 v) a1 (hK.mono fun _ _ hd => hd.p)).mono ?_
    rintro en w' ⟨r, rfl, rfl, hg, hc⟩
    exact ⟨rfl, hg, hc⟩
  · simp only [if_neg he]
    exact reads98_bad h K caps hcf (fun x _ => x = .int .u8 v) a1 e1 he (hK.mono fun _ _ hd => hd.p)
theorem reads100_any (h : Cur w g A c l a 0) (K : Nat) (caps : Array Value) (hcf : ∀ w : World, Sem.run Try.prog (callFunc K caps) w = .ok (.enter K caps) w) (r : Int × Int × Int)
    (hK : Calls Try.prog K caps w (Did w g A c l (.int .u32 r.1) r.2.1 r.2.2)) : Calls Try.prog 100 #[.pointer (some ⟨g, 0, none⟩), .func (.func K) #[] caps] w (Did w g A c l (.int .u32 (rM 0 r a).1) (rM 0 r a).2.1 (rM 0 r a).2.2) := by
  obtain ⟨v, a1, e1⟩ := r
  unfold rM
  by_cases he : e1 = 0
  · subst he
    simp only [if_true]
    refine (reads100_ok h K caps hcf (fun x _ => x = .int .u32 v) a1 (hK.mono fun _ _ hd => hd.p)).mono ?_
    rintro en w' ⟨r, rfl, rfl, hg, hc⟩
    exact ⟨rfl, hg, hc⟩
  · simp only [if_neg he]
    exact reads100_bad h K caps hcf (fun x _ => x = .int .u32 v) a1 e1 he (hK.mono fun _ _ hd => hd.p)
theorem reads106_any (h : Cur w g A c l a 0) (K : Nat) (caps : Array Value) (hcf : ∀ w : World, Sem.run Try.prog (callFunc K caps) w = .ok (.enter K caps) w) (r : Int × Int × Int)
    (hK : Calls Try.prog K caps w (Did w g A c l (.int .u64 r.1) r.2.1 r.2.2)) : Calls Try.prog 106 #[.pointer (some ⟨g, 0, none⟩), .func (.func K) #[] caps] w (Did w g A c l (.int .u64 (rM 0 r a).1) (rM 0 r a).2.1 (rM 0 r a).2.2) := by
  obtain ⟨v, a1, e1⟩ := r
  unfold rM
  by_cases he : e1 = 0
  · subst he
    simp only [if_true]
    refine (reads106_ok h K caps hcf (fun x _ => x = .int .u64 v) a1 (hK.mono fun _ _ hd => hd.p)).mono ?_
    rintro en w' ⟨r, rfl, rfl, hg, hc⟩
    exact ⟨rfl, hg, hc⟩
  · simp only [if_neg he]
    exact reads106_bad h K caps hcf (fun x _ => x = .int .u64 v) a1 e1 he (hK.mono fun _ _ hd => hd.p)
theorem reads113_any (h : Cur w g A c l a 0) (K : Nat) (caps : Array Value) (hcf : ∀ w : World, Sem.run Try.prog (callFunc K caps) w = .ok (.enter K caps) w) (r : Int × Int × Int)
    (hK : Calls Try.prog K caps w (Did w g A c l (.int .i64 r.1) r.2.1 r.2.2)) : Calls Try.prog 113 #[.pointer (some ⟨g, 0, none⟩), .func (.func K) #[] caps] w (Did w g A c l (.int .i64 (rM 0 r a).1) (rM 0 r a).2.1 (rM 0 r a).2.2) := by
  obtain ⟨v, a1, e1⟩ := r
  unfold rM
  by_cases he : e1 = 0
  · subst he
    simp only [if_true]
    refine (reads113_ok h K caps hcf (fun x _ => x = .int .i64 v) a1 (hK.mono fun _ _ hd => hd.p)).mono ?_
    rintro en w' ⟨r, rfl, rfl, hg, hc⟩
    exact ⟨rfl, hg, hc⟩
  · simp only [if_neg he]
    exact reads113_bad h K caps hcf (fun x _ => x = .int .i64 v) a1 e1 he (hK.mono fun _ _ hd => hd.p)
theorem head_cell {W : World} {A' : Option Addr} {n : Nat} {L : List Int} {ok : Nat → Prop} (hf : Kd.F ku W ok A' n L) (hn : 0 < n) : ∃ ad, A' = some ad ∧ W.cell? ad = some (.int .u8 (rd L 0)) := by
  obtain ⟨ad, eA, x0⟩ := ReadsOf.at_ (Kd.reads_of_C (enc := Value.int .u8) (d := 0) (h1 := fun _ => rfl) (Kd.F_now hf)) 0 (by omega) (by omega)
  refine ⟨ad, eA, ?_⟩
  have e : ad.add (0 : Int).toNat = ad := by simp [Addr.add]
  rw [e] at x0
  exact x0
set_option maxRecDepth 100000 in
theorem Byte1_calls (h : Cur w g A c l a 0) (bc : Nat) (cb : w.cell? ⟨bc, 0, none⟩ = some (.pointer (some ⟨g, 0, none⟩))) : Calls Try.prog 103 #[.pointer (some ⟨bc, 0, none⟩)] w (Did w g A c l (.int .u8 (byteB l a).1) (byteB l a).2.1 (byteB l a).2.2) := by
  have hu := Try.underlying22
  unfold byteB
  by_cases hn : 1 > (l.length : Int) - a
  · rw [if_pos hn]
    have TC := Aside0.mk (take_no h 1 hn)
    clear h hn
    go_enter Try.func103, Try.ntmps103
    go_wp2_with (first | (go_at_call 104; refine TC.out.mono ?_; rintro e1 w1 ⟨rfl, hg, hc⟩; have HG := Aside0.mk hg; have HC := Aside0.mk hc; clear hg hc) | fail)
    go_ret
    exact ⟨rfl, HG.out, HC.out⟩
  · rw [if_neg hn]
    have TC := Aside0.mk (take_yes h 1 (by omega))
    have h0 := h.lo
    have hh := h.hi
    have RH := Aside0.mk (show rd ((l.drop a.toNat).take 1) 0 = rd l a from by
      have hlt : a.toNat < l.length := by omega
      simp [rd, List.getD_eq_getElem?_getD, List.getElem?_take, List.getElem?_drop])
    have LN := Aside0.mk (show ((l.drop a.toNat).take 1).length = 1 from by rw [List.length_take, List.length_drop]; omega)
    clear h hn h0 hh
    go_enter Try.func103, Try.ntmps103
    go_wp2_with (first | (go_at_call 104; refine TC.out.mono ?_; rintro e1 w1 ⟨A', c', rfl, hf, hc', hg, hc⟩; obtain ⟨ad, eA, y0⟩ := head_cell hf (by decide); rw [RH.out] at y0; subst eA; have HG := Aside0.mk hg; have HC := Aside0.mk hc; clear hg hc hf) | fail)
    go_ret
    exact ⟨rfl, HG.out, HC.out⟩
set_option maxRecDepth 100000 in
theorem U321_calls (h : Cur w g A c l a 0) (bc : Nat) (cb : w.cell? ⟨bc, 0, none⟩ = some (.pointer (some ⟨g, 0, none⟩))) : Calls Try.prog 101 #[.pointer (some ⟨bc, 0, none⟩)] w (Did w g A c l (.int .u32 (u32B l a).1) (u32B l a).2.1 (u32B l a).2.2) := by
  unfold u32B
  by_cases he : (uM l a 32).2.2 = 0
  · rw [if_pos he]
    have NC := Aside0.mk (number24_yes h 32 he)
    clear h he
    go_enter Try.func101, Try.ntmps101
    go_wp2_with (first | (go_at_call 102; refine NC.out.mono ?_; rintro e1 w1 ⟨rfl, hg, hc⟩; have HG := Aside0.mk hg; have HC := Aside0.mk hc; clear hg hc) | fail)
    go_ret
    exact ⟨by first | rfl | (rw [IntKind.wrap_u32]) | simp [IntKind.wrap_u32], HG.out, HC.out⟩
  · rw [if_neg he]
    have NC := Aside0.mk (number24_no h 32 he)
    clear h he
    go_enter Try.func101, Try.ntmps101
    go_wp2_with (first | (go_at_call 102; refine NC.out.mono ?_; rintro e1 w1 ⟨rfl, hg, hc⟩; have HG := Aside0.mk hg; have HC := Aside0.mk hc; clear hg hc) | fail)
    go_ret
    exact ⟨by first | rfl | (rw [IntKind.wrap_u32]) | simp [IntKind.wrap_u32], HG.out, HC.out⟩
set_option maxRecDepth 100000 in
theorem S321_calls (h : Cur w g A c l a 0) (bc : Nat) (cb : w.cell? ⟨bc, 0, none⟩ = some (.pointer (some ⟨g, 0, none⟩))) : Calls Try.prog 105 #[.pointer (some ⟨bc, 0, none⟩)] w (Did w g A c l (.int .u32 (s32B l a).1) (s32B l a).2.1 (s32B l a).2.2) := by
  unfold s32B
  by_cases he : (sM l a 32).2.2 = 0
  · rw [if_pos he]
    have NC := Aside0.mk (number25_yes h 32 he)
    clear h he
    go_enter Try.func105, Try.ntmps105
    go_wp2_with (first | (go_at_call 102; refine NC.out.mono ?_; rintro e1 w1 ⟨rfl, hg, hc⟩; have HG := Aside0.mk hg; have HC := Aside0.mk hc; clear hg hc) | fail)
    go_ret
    exact ⟨by first | rfl | (rw [IntKind.wrap_u32]) | simp [IntKind.wrap_u32], HG.out, HC.out⟩
  · rw [if_neg he]
    have NC := Aside0.mk (number25_no h 32 he)
    clear h he
    go_enter Try.func105, Try.ntmps105
    go_wp2_with (first | (go_at_call 102; refine NC.out.mono ?_; rintro e1 w1 ⟨rfl, hg, hc⟩; have HG := Aside0.mk hg; have HC := Aside0.mk hc; clear hg hc) | fail)
    go_ret
    exact ⟨by first | rfl | (rw [IntKind.wrap_u32]) | simp [IntKind.wrap_u32], HG.out, HC.out⟩
set_option maxRecDepth 100000 in
theorem S641_calls (h : Cur w g A c l a 0) (bc : Nat) (cb : w.cell? ⟨bc, 0, none⟩ = some (.pointer (some ⟨g, 0, none⟩))) : Calls Try.prog 107 #[.pointer (some ⟨bc, 0, none⟩)] w (Did w g A c l (.int .u64 (s64B l a).1) (s64B l a).2.1 (s64B l a).2.2) := by
  unfold s64B
  by_cases he : (sM l a 64).2.2 = 0
  · rw [if_pos he]
    have NC := Aside0.mk (number25_yes h 64 he)
    clear h he
    go_enter Try.func107, Try.ntmps107
    go_wp2_with (first | (go_at_call 102; refine NC.out.mono ?_; rintro e1 w1 ⟨rfl, hg, hc⟩; have HG := Aside0.mk hg; have HC := Aside0.mk hc; clear hg hc) | fail)
    go_ret
    exact ⟨by first | rfl | (rw [IntKind.wrap_u32]) | simp [IntKind.wrap_u32], HG.out, HC.out⟩
  · rw [if_neg he]
    have NC := Aside0.mk (number25_no h 64 he)
    clear h he
    go_enter Try.func107, Try.ntmps107
    go_wp2_with (first | (go_at_call 102; refine NC.out.mono ?_; rintro e1 w1 ⟨rfl, hg, hc⟩; have HG := Aside0.mk hg; have HC := Aside0.mk hc; clear hg hc) | fail)
    go_ret
    exact ⟨by first | rfl | (rw [IntKind.wrap_u32]) | simp [IntKind.wrap_u32], HG.out, HC.out⟩
set_option maxRecDepth 100000 in
theorem Byte_calls (h : Cur w g A c l a e) : Calls Try.prog 82 #[.pointer (some ⟨g, 0, none⟩)] w (Did w g A c l (.int .u8 (byteM l a e).1) (byteM l a e).2.1 (byteM l a e).2.2) := by
  have hb := below_alloc (Below.refl w.heap.size w) (.cells #[.pointer (some ⟨g, 0, none⟩)] 53)
  have h1 := h.below hb
  have GB := Aside0.mk (grown_of_below hb (some g))
  have cb : (w.alloc (.cells #[.pointer (some ⟨g, 0, none⟩)] 53)).cell? ⟨w.heap.size, 0, none⟩ = some (.pointer (some ⟨g, 0, none⟩)) := (blk_cell (heap_alloc_new w (.cells #[.pointer (some ⟨g, 0, none⟩)] 53)) 0).trans rfl
  by_cases he : e = 0
  · subst he
    have RC := Aside0.mk (reads98_any h1 103 #[.pointer (some ⟨w.heap.size, 0, none⟩)] (fun w => by go_simp) (byteB l a) (Byte1_calls h1 _ cb))
    have e1 : byteM l a 0 = rM 0 (byteB l a) a := by unfold byteM readsM; rw [if_pos rfl]
    rw [e1]
    clear h hb h1 cb e1
    go_enter Try.func82, Try.ntmps82
    go_wp2_with (first | (go_at_call 98; refine RC.out.mono ?_; rintro e1 w1 ⟨rfl, hg, hc⟩; have HG := Aside0.mk hg; have HC := Aside0.mk hc; clear hg hc) | fail)
    go_ret
    exact ⟨rfl, grown_then GB.out HG.out, HC.out⟩
  · have RC := Aside0.mk (reads98_off h1 he 103 #[.pointer (some ⟨w.heap.size, 0, none⟩)])
    have e1 : byteM l a e = (0, a, e) := by unfold byteM readsM; rw [if_neg he]
    rw [e1]
    clear h hb h1 cb e1 he
    go_enter Try.func82, Try.ntmps82
    go_wp2_with (first | (go_at_call 98; refine RC.out.mono ?_; rintro e1 w1 ⟨rfl, hg, hc⟩; have HG := Aside0.mk hg; have HC := Aside0.mk hc; clear hg hc) | fail)
    go_ret
    exact ⟨rfl, grown_then GB.out HG.out, HC.out⟩
theorem Byte_nil (w : World) : Calls Try.prog 82 #[.pointer none] w fun en w' => en = .returned (.int .u8 0) ∧ Below w.heap.size w w' := by
  have RC := Aside0.mk (reads98_nil (w.alloc (.cells #[.pointer none] 53)) 103 #[.pointer (some ⟨w.heap.size, 0, none⟩)])
  go_enter Try.func82, Try.ntmps82
  go_wp2_with (first | (go_at_call 98; refine RC.out.mono ?_; rintro e1 w1 ⟨rfl, rfl⟩) | fail)
  go_ret
  exact ⟨rfl, below_alloc (Below.refl _ _) _⟩
set_option maxRecDepth 100000 in
theorem U32_calls (h : Cur w g A c l a e) : Calls Try.prog 73 #[.pointer (some ⟨g, 0, none⟩)] w (Did w g A c l (.int .u32 (u32M l a e).1) (u32M l a e).2.1 (u32M l a e).2.2) := by
  have hb := below_alloc (Below.refl w.heap.size w) (.cells #[.pointer (some ⟨g, 0, none⟩)] 53)
  have h1 := h.below hb
  have GB := Aside0.mk (grown_of_below hb (some g))
  have cb : (w.alloc (.cells #[.pointer (some ⟨g, 0, none⟩)] 53)).cell? ⟨w.heap.size, 0, none⟩ = some (.pointer (some ⟨g, 0, none⟩)) := (blk_cell (heap_alloc_new w (.cells #[.pointer (some ⟨g, 0, none⟩)] 53)) 0).trans rfl
  by_cases he : e = 0
  · subst he
    have RC := Aside0.mk (reads100_any h1 101 #[.pointer (some ⟨w.heap.size, 0, none⟩)] (fun w => by go_simp) (u32B l a) (U321_calls h1 _ cb))
    have e1 : u32M l a 0 = rM 0 (u32B l a) a := by unfold u32M readsM; rw [if_pos rfl]
    rw [e1]
    clear h hb h1 cb e1
    go_enter Try.func73, Try.ntmps73
    go_wp2_with (first | (go_at_call 100; refine RC.out.mono ?_; rintro e1 w1 ⟨rfl, hg, hc⟩; have HG := Aside0.mk hg; have HC := Aside0.mk hc; clear hg hc) | fail)
    go_ret
    exact ⟨rfl, grown_then GB.out HG.out, HC.out⟩
  · have RC := Aside0.mk (reads100_off h1 he 101 #[.pointer (some ⟨w.heap.size, 0, none⟩)])
    have e1 : u32M l a e = (0, a, e) := by unfold u32M readsM; rw [if_neg he]
    rw [e1]
    clear h hb h1 cb e1 he
    go_enter Try.func73, Try.ntmps73
    go_wp2_with (first | (go_at_call 100; refine RC.out.mono ?_; rintro e1 w1 ⟨rfl, hg, hc⟩; have HG := Aside0.mk hg; have HC := Aside0.mk hc; clear hg hc) | fail)
    go_ret
    exact ⟨rfl, grown_then GB.out HG.out, HC.out⟩
theorem U32_nil (w : World) : Calls Try.prog 73 #[.pointer none] w fun en w' => en = .returned (.int .u32 0) ∧ Below w.heap.size w w' := by
  have RC := Aside0.mk (reads100_nil (w.alloc (.cells #[.pointer none] 53)) 101 #[.pointer (some ⟨w.heap.size, 0, none⟩)])
  go_enter Try.func73, Try.ntmps73
  go_wp2_with (first | (go_at_call 100; refine RC.out.mono ?_; rintro e1 w1 ⟨rfl, rfl⟩) | fail)
  go_ret
  exact ⟨rfl, below_alloc (Below.refl _ _) _⟩
set_option maxRecDepth 100000 in
theorem S32_calls (h : Cur w g A c l a e) : Calls Try.prog 84 #[.pointer (some ⟨g, 0, none⟩)] w (Did w g A c l (.int .u32 (s32M l a e).1) (s32M l a e).2.1 (s32M l a e).2.2) := by
  have hb := below_alloc (Below.refl w.heap.size w) (.cells #[.pointer (some ⟨g, 0, none⟩)] 53)
  have h1 := h.below hb
  have GB := Aside0.mk (grown_of_below hb (some g))
  have cb : (w.alloc (.cells #[.pointer (some ⟨g, 0, none⟩)] 53)).cell? ⟨w.heap.size, 0, none⟩ = some (.pointer (some ⟨g, 0, none⟩)) := (blk_cell (heap_alloc_new w (.cells #[.pointer (some ⟨g, 0, none⟩)] 53)) 0).trans rfl
  by_cases he : e = 0
  · subst he
    have RC := Aside0.mk (reads100_any h1 105 #[.pointer (some ⟨w.heap.size, 0, none⟩)] (fun w => by go_simp) (s32B l a) (S321_calls h1 _ cb))
    have e1 : s32M l a 0 = rM 0 (s32B l a) a := by unfold s32M readsM; rw [if_pos rfl]
    rw [e1]
    clear h hb h1 cb e1
    go_enter Try.func84, Try.ntmps84
    go_wp2_with (first | (go_at_call 100; refine RC.out.mono ?_; rintro e1 w1 ⟨rfl, hg, hc⟩; have HG := Aside0.mk hg; have HC := Aside0.mk hc; clear hg hc) | fail)
    go_ret
    exact ⟨rfl, grown_then GB.out HG.out, HC.out⟩
  · have RC := Aside0.mk (reads100_off h1 he 105 #[.pointer (some ⟨w.heap.size, 0, none⟩)])
    have e1 : s32M l a e = (0, a, e) := by unfold s32M readsM; rw [if_neg he]
    rw [e1]
    clear h hb h1 cb e1 he
    go_enter Try.func84, Try.ntmps84
    go_wp2_with (first | (go_at_call 100; refine RC.out.mono ?_; rintro e1 w1 ⟨rfl, hg, hc⟩; have HG := Aside0.mk hg; have HC := Aside0.mk hc; clear hg hc) | fail)
    go_ret
    exact ⟨rfl, grown_then GB.out HG.out, HC.out⟩
theorem S32_nil (w : World) : Calls Try.prog 84 #[.pointer none] w fun en w' => en = .returned (.int .u32 0) ∧ Below w.heap.size w w' := by
  have RC := Aside0.mk (reads100_nil (w.alloc (.cells #[.pointer none] 53)) 105 #[.pointer (some ⟨w.heap.size, 0, none⟩)])
  go_enter Try.func84, Try.ntmps84
  go_wp2_with (first | (go_at_call 100; refine RC.out.mono ?_; rintro e1 w1 ⟨rfl, rfl⟩) | fail)
  go_ret
  exact ⟨rfl, below_alloc (Below.refl _ _) _⟩
set_option maxRecDepth 100000 in
theorem S64_calls (h : Cur w g A c l a e) : Calls Try.prog 86 #[.pointer (some ⟨g, 0, none⟩)] w (Did w g A c l (.int .u64 (s64M l a e).1) (s64M l a e).2.1 (s64M l a e).2.2) := by
  have hb := below_alloc (Below.refl w.heap.size w) (.cells #[.pointer (some ⟨g, 0, none⟩)] 53)
  have h1 := h.below hb
  have GB := Aside0.mk (grown_of_below hb (some g))
  have cb : (w.alloc (.cells #[.pointer (some ⟨g, 0, none⟩)] 53)).cell? ⟨w.heap.size, 0, none⟩ = some (.pointer (some ⟨g, 0, none⟩)) := (blk_cell (heap_alloc_new w (.cells #[.pointer (some ⟨g, 0, none⟩)] 53)) 0).trans rfl
  by_cases he : e = 0
  · subst he
    have RC := Aside0.mk (reads106_any h1 107 #[.pointer (some ⟨w.heap.size, 0, none⟩)] (fun w => by go_simp) (s64B l a) (S641_calls h1 _ cb))
    have e1 : s64M l a 0 = rM 0 (s64B l a) a := by unfold s64M readsM; rw [if_pos rfl]
    rw [e1]
    clear h hb h1 cb e1
    go_enter Try.func86, Try.ntmps86
    go_wp2_with (first | (go_at_call 106; refine RC.out.mono ?_; rintro e1 w1 ⟨rfl, hg, hc⟩; have HG := Aside0.mk hg; have HC := Aside0.mk hc; clear hg hc) | fail)
    go_ret
    exact ⟨rfl, grown_then GB.out HG.out, HC.out⟩
  · have RC := Aside0.mk (reads106_off h1 he 107 #[.pointer (some ⟨w.heap.size, 0, none⟩)])
    have e1 : s64M l a e = (0, a, e) := by unfold s64M readsM; rw [if_neg he]
    rw [e1]
    clear h hb h1 cb e1 he
    go_enter Try.func86, Try.ntmps86
    go_wp2_with (first | (go_at_call 106; refine RC.out.mono ?_; rintro e1 w1 ⟨rfl, hg, hc⟩; have HG := Aside0.mk hg; have HC := Aside0.mk hc; clear hg hc) | fail)
    go_ret
    exact ⟨rfl, grown_then GB.out HG.out, HC.out⟩
theorem S64_nil (w : World) : Calls Try.prog 86 #[.pointer none] w fun en w' => en = .returned (.int .u64 0) ∧ Below w.heap.size w w' := by
  have RC := Aside0.mk (reads106_nil (w.alloc (.cells #[.pointer none] 53)) 107 #[.pointer (some ⟨w.heap.size, 0, none⟩)])
  go_enter Try.func86, Try.ntmps86
  go_wp2_with (first | (go_at_call 106; refine RC.out.mono ?_; rintro e1 w1 ⟨rfl, rfl⟩) | fail)
  go_ret
  exact ⟨rfl, below_alloc (Below.refl _ _) _⟩
end
end Go.Proofs.Ytjhdnlgbboboiaa.Scan

/- The walks of Take, Name, Count. -/
namespace Go.Proofs.Ytjhdnlgbboboiaa.Scan
open Go.Proofs.Ytjhdnlgbboboiaa.Leb Go.Proofs.Ytjhdnlgbboboiaa.Mem Go.RowKit Go.Proofs.YtjhdnlgbboboiaaW.PrintWords Go.Proofs.YtjhdnlgbboboiaaW.PrintLast Go.Proofs.YtjhdnlgbboboiaaW.PrintMore Go.Proofs.Ytjhdnlgbboboiaa.Base
set_option linter.unusedVariables false
set_option linter.unusedSimpArgs false
/-- Bytes in a new row. -/
def BytesP (lo : Nat) (bs : List Int) (r : Value) (w' : World) : Prop := ∃ A' c', r = .slice A' bs.length c' ∧ bs.length ≤ c' ∧ Kd.F ku w' (fun k => lo ≤ k ∧ k < w'.heap.size) A' bs.length bs
theorem BytesP.nil (lo : Nat) (w' : World) : BytesP lo [] (.slice none 0 0) w' := ⟨none, 0, rfl, Nat.le_refl _, fun W' _ => Kd.C_nil _ W'⟩
theorem BytesP.low {lo lo' : Nat} {bs : List Int} {r : Value} {w' : World} (h : BytesP lo bs r w') (hl : lo' ≤ lo) : BytesP lo' bs r w' := by
  obtain ⟨A', c', e, hc, hf⟩ := h
  exact ⟨A', c', e, hc, Kd.F_mono hf fun k hk => ⟨by omega, hk.2⟩⟩
theorem loose_bytes {w : World} {v : Value} {bs : List Int} {lo : Nat} (h : Loose w 5 1 v bs.length (encs (Value.int .u8) bs)) (hlo : ∀ b, v.ownBlock = some b → lo ≤ b) : BytesP lo bs v w := by
  obtain ⟨A', c', rfl, hc, hC⟩ := Loose.C (h1 := fun _ => rfl) h
  refine ⟨A', c', rfl, hc, fun W' hW => ?_⟩
  have hL' : Loose W' 5 1 (.slice A' bs.length c') bs.length (encs (Value.int .u8) bs) := h.move fun k hk => hW k ⟨hlo k hk, h.lt k hk⟩ (h.lt k hk)
  obtain ⟨A'', c'', e, _, hC'⟩ := Loose.C (h1 := fun _ => rfl) hL'
  injection e with e1 _ _
  subst e1
  exact hC'
theorem grown_none {w w' : World} (h : w.grownBy w' none) (r : Option Nat) : w.grownBy w' r := ⟨h.os, h.tape, h.output, h.size, fun i hi _ => h.block i hi (by simp)⟩
def takeB (l : List Int) (n a : Int) : List Int × Int × Int := if n > (l.length : Int) - a then ([], a, 100) else ((l.drop a.toNat).take n.toNat, a + n, 0)
def takeM (l : List Int) (n a e : Int) : List Int × Int × Int := readsM [] (takeB l n a) a e
section
variable {w : World} {g c : Nat} {A : Option Addr} {l : List Int} {a e : Int}
theorem reads109_any (h : Cur w g A c l a 0) (K : Nat) (caps : Array Value) (hcf : ∀ w : World, Sem.run Try.prog (callFunc K caps) w = .ok (.enter K caps) w) (r : List Int × Int × Int) (lo : Nat)
    (hK : Calls Try.prog K caps w (DidP w g A c l (BytesP lo r.1) r.2.1 r.2.2)) : Calls Try.prog 109 #[.pointer (some ⟨g, 0, none⟩), .func (.func K) #[] caps] w (DidP w g A c l (BytesP lo (rM [] r a).1) (rM [] r a).2.1 (rM [] r a).2.2) := by
  obtain ⟨v, a1, e1⟩ := r
  unfold rM
  by_cases he : e1 = 0
  · subst he
    simp only [if_true]
    exact reads109_ok h K caps hcf _ a1 hK
  · simp only [if_neg he]
    refine (reads109_bad h K caps hcf _ a1 e1 he hK).mono ?_
    rintro en w' ⟨rfl, hg, hc⟩
    exact ⟨_, rfl, BytesP.nil _ _, hg, hc⟩
set_option maxRecDepth 100000 in
theorem Take1_calls (h : Cur w g A c l a 0) (bc bn : Nat) (n : Int) (n0 : 0 ≤ n) (n1 : n < 4294967296) (cb : w.cell? ⟨bc, 0, none⟩ = some (.pointer (some ⟨g, 0, none⟩))) (cn : w.cell? ⟨bn, 0, none⟩ = some (.int .u32 n)) :
    Calls Try.prog 110 #[.pointer (some ⟨bc, 0, none⟩), .pointer (some ⟨bn, 0, none⟩)] w (DidP w g A c l (BytesP w.heap.size (takeB l n a).1) (takeB l n a).2.1 (takeB l n a).2.2) := by
  have hu := Try.underlying22
  have hu86 := Try.underlying86
  unfold takeB
  by_cases hn : n > (l.length : Int) - a
  · rw [if_pos hn]
    have TC := Aside0.mk (take_no h n hn)
    have RN : ∀ W : World, RawSrc W 1 none 0 [] := fun W => ⟨rfl, by simp, fun _ => rfl, fun ad e j u hu => by simp at hu⟩
    have RN2 := Aside0.mk RN
    clear h hn RN
    go_enter Try.func110, Try.ntmps110
    go_wp2_with (first
      | (go_at_call 104; refine TC.out.mono ?_; rintro e1 w1 ⟨rfl, hg, hc⟩; have HG := Aside0.mk hg; have HC := Aside0.mk hc; clear hg hc)
      | (at_builtin
         refine loose_append rfl (.const (.slice none 0 0)) (.tmp 6) 22 5 (.int .u8 0) 1 1 rfl Try.underlying22 info5 rfl (by decide) (by decide) (.slice none 0 0) 0 [] none 0 0 [] (by simp [Act.eval, Act.put]) (by simp [Act.eval, Act.put]) (Loose.nil _ _ _) (RN2.out _) (by decide) ?_
         intro v1 w3 h1 h2 h3
         have G1 := Aside0.mk h1
         have G2 := Aside0.mk h2
         have G3 := Aside0.mk h3
         clear h1 h2 h3)
      | fail)
    go_ret
    exact ⟨v1, rfl, loose_bytes (v := v1) (bs := []) G1.out (fun b hb => by
      rcases G3.out with e | ⟨b', e, hle⟩
      · rw [e] at hb; cases hb
      · rw [e] at hb
        injection hb with hb
        have := HG.out.size
        omega), grown_then HG.out (grown_none G2.out _), ⟨(G2.out.block g HC.out.lt (by simp [Value.ownBlock])).trans HC.out.box, Kd.F_step HC.out.bytes fun k _ hlt => G2.out.block k hlt (by simp [Value.ownBlock]), HC.out.cap, HC.out.lo, HC.out.hi, HC.out.ok, HC.out.sm⟩⟩
  · rw [if_neg hn]
    obtain ⟨m, rfl⟩ := Int.eq_ofNat_of_zero_le n0
    have TC := Aside0.mk (take_yes h m (by omega))
    have LN := Aside0.mk (show ((l.drop a.toNat).take m).length = m from by rw [List.length_take, List.length_drop]; have := h.lo; have := h.hi; omega)
    have SM := Aside0.mk (show m ≤ 1000000 from by have := h.sm; have := h.lo; omega)
    clear h hn
    go_enter Try.func110, Try.ntmps110
    go_wp2_with (first
      | (go_at_call 104; refine TC.out.mono ?_; rintro e1 w1 ⟨A', c', rfl, hf, hc', hg, hc⟩; have HG := Aside0.mk hg; have HC := Aside0.mk hc; have RW := Aside0.mk (raw_scalar (Kd.F_now hf)); clear hg hc hf hc')
      | (at_builtin
         refine loose_append rfl (.const (.slice none 0 0)) (.tmp 6) 22 5 (.int .u8 0) 1 1 rfl Try.underlying22 info5 rfl (by decide) (by decide) (.slice none 0 0) 0 [] A' m c' (encs (Value.int .u8) ((l.drop a.toNat).take m)) (by simp [Act.eval, Act.put]) (by simp [Act.eval, Act.put]) (Loose.nil _ _ _) RW.out (by have := SM.out; omega) ?_
         intro v1 w3 h1 h2 h3
         have G1 := Aside0.mk h1
         have G2 := Aside0.mk h2
         have G3 := Aside0.mk h3
         clear h1 h2 h3)
      | fail)
    go_ret
    refine ⟨v1, rfl, ?_, grown_then HG.out (grown_none G2.out _), ⟨(G2.out.block g HC.out.lt (by simp [Value.ownBlock])).trans HC.out.box, Kd.F_step HC.out.bytes fun k _ hlt => G2.out.block k hlt (by simp [Value.ownBlock]), HC.out.cap, HC.out.lo, HC.out.hi, HC.out.ok, HC.out.sm⟩⟩
    refine loose_bytes (v := v1) (bs := (l.drop a.toNat).take m) ?_ (fun b hb => by
      rcases G3.out with e | ⟨b', e, hle⟩
      · rw [e] at hb; cases hb
      · rw [e] at hb
        injection hb with hb
        have := HG.out.size
        omega)
    have := G1.out
    rw [LN.out]
    rw [Nat.zero_add, List.nil_append] at this
    exact this
set_option maxRecDepth 100000 in
theorem Take_calls (h : Cur w g A c l a e) (n : Int) (n0 : 0 ≤ n) (n1 : n < 4294967296) : Calls Try.prog 89 #[.pointer (some ⟨g, 0, none⟩), .int .u32 n] w (DidP w g A c l (BytesP w.heap.size (takeM l n a e).1) (takeM l n a e).2.1 (takeM l n a e).2.2) := by
  have hb1 := below_alloc (Below.refl w.heap.size w) (.cells #[.pointer (some ⟨g, 0, none⟩)] 53)
  have hb := hb1.alloc hb1.size (.cells #[.int .u32 n] 86)
  have h1 := h.below hb
  have GB := Aside0.mk (grown_of_below hb (some g))
  have SZ := Aside0.mk hb.size
  have cb : ((w.alloc (.cells #[.pointer (some ⟨g, 0, none⟩)] 53)).alloc (.cells #[.int .u32 n] 86)).cell? ⟨w.heap.size, 0, none⟩ = some (.pointer (some ⟨g, 0, none⟩)) := (blk_cell ((Below.heap_alloc _ _ _ (by rw [World.size_alloc]; omega)).trans (heap_alloc_new w (.cells #[.pointer (some ⟨g, 0, none⟩)] 53))) 0).trans rfl
  have cn : ((w.alloc (.cells #[.pointer (some ⟨g, 0, none⟩)] 53)).alloc (.cells #[.int .u32 n] 86)).cell? ⟨w.heap.size + 1, 0, none⟩ = some (.int .u32 n) := by
    have := heap_alloc_new (w.alloc (.cells #[.pointer (some ⟨g, 0, none⟩)] 53)) (.cells #[.int .u32 n] 86)
    rw [World.size_alloc] at this
    exact (blk_cell this 0).trans rfl
  by_cases he : e = 0
  · subst he
    have RC := Aside0.mk (reads109_any h1 110 #[.pointer (some ⟨w.heap.size, 0, none⟩), .pointer (some ⟨w.heap.size + 1, 0, none⟩)] (fun w => by go_simp) (takeB l n a) _ (Take1_calls h1 _ _ n n0 n1 cb cn))
    have e1 : takeM l n a 0 = rM [] (takeB l n a) a := by unfold takeM readsM; rw [if_pos rfl]
    rw [e1]
    clear h hb hb1 h1 cb cn e1
    go_enter Try.func89, Try.ntmps89
    go_wp2_with (first | (go_at_call 109; refine RC.out.mono ?_; rintro e1 w1 ⟨r, rfl, hp, hg, hc⟩; have HP := Aside0.mk hp; have HG := Aside0.mk hg; have HC := Aside0.mk hc; clear hp hg hc) | fail)
    go_ret
    exact ⟨r, rfl, HP.out.low SZ.out, grown_then GB.out HG.out, HC.out⟩
  · have RC := Aside0.mk (reads109_off h1 he 110 #[.pointer (some ⟨w.heap.size, 0, none⟩), .pointer (some ⟨w.heap.size + 1, 0, none⟩)])
    have e1 : takeM l n a e = ([], a, e) := by unfold takeM readsM; rw [if_neg he]
    rw [e1]
    clear h hb hb1 h1 cb cn e1 he
    go_enter Try.func89, Try.ntmps89
    go_wp2_with (first | (go_at_call 109; refine RC.out.mono ?_; rintro e1 w1 ⟨rfl, hg, hc⟩; have HG := Aside0.mk hg; have HC := Aside0.mk hc; clear hg hc) | fail)
    go_ret
    exact ⟨_, rfl, BytesP.nil _ _, grown_then GB.out HG.out, HC.out⟩
theorem Take_nil (w : World) (n : Int) : Calls Try.prog 89 #[.pointer none, .int .u32 n] w fun en w' => en = .returned (.slice none 0 0) ∧ Below w.heap.size w w' := by
  have RC := Aside0.mk (reads109_nil ((w.alloc (.cells #[.pointer none] 53)).alloc (.cells #[.int .u32 n] 86)) 110 #[.pointer (some ⟨w.heap.size, 0, none⟩), .pointer (some ⟨w.heap.size + 1, 0, none⟩)])
  go_enter Try.func89, Try.ntmps89
  go_wp2_with (first | (go_at_call 109; refine RC.out.mono ?_; rintro e1 w1 ⟨rfl, rfl⟩) | fail)
  go_ret
  exact ⟨rfl, (below_alloc (Below.refl _ _) _).alloc (by simp) _⟩
theorem u32M_range (l : List Int) (a e : Int) : 0 ≤ (u32M l a e).1 ∧ (u32M l a e).1 < 4294967296 := by
  unfold u32M readsM rM u32B
  repeat' split
  all_goals (simp only; omega)
/-- Are bytes a name? -/
def V (bs : List Int) : Bool := (Go.Proofs.Ytjhdnlgbboboiaa.Utf.countT (strOfNums bs)).1
def nameB (l : List Int) (a : Int) : List Int × Int × Int :=
  ((takeM l (u32M l a 0).1 (u32M l a 0).2.1 (u32M l a 0).2.2).1, (takeM l (u32M l a 0).1 (u32M l a 0).2.1 (u32M l a 0).2.2).2.1,
    if (takeM l (u32M l a 0).1 (u32M l a 0).2.1 (u32M l a 0).2.2).2.2 = 0 ∧ V (takeM l (u32M l a 0).1 (u32M l a 0).2.1 (u32M l a 0).2.2).1 = false then 102 else (takeM l (u32M l a 0).1 (u32M l a 0).2.1 (u32M l a 0).2.2).2.2)
def nameM (l : List Int) (a e : Int) : List Int × Int × Int := readsM [] (nameB l a) a e
def countB (l : List Int) (a : Int) : Int × Int × Int := ((u32M l a 0).1, (u32M l a 0).2.1, if (u32M l a 0).1 > 4096 then fl 3 (u32M l a 0).2.2 else (u32M l a 0).2.2)
def countM (l : List Int) (a e : Int) : Int × Int × Int := readsM 0 (countB l a) a e
theorem takeM_len (l : List Int) (n a e : Int) (hl : l.length ≤ 1000000) : (takeM l n a e).1.length ≤ 1000000 := by
  unfold takeM readsM rM takeB
  repeat' split
  all_goals (simp only [List.length_nil, List.length_take, List.length_drop]; omega)
set_option maxRecDepth 100000 in
set_option maxHeartbeats 1000000 in
theorem Name1_calls (h : Cur w g A c l a 0) (bc : Nat) (hbc : bc ≠ g) (cb : w.heap[bc]? = some (.cells #[.pointer (some ⟨g, 0, none⟩)] 53 (0, 0))) : Calls Try.prog 112 #[.pointer (some ⟨bc, 0, none⟩)] w (Did w g A c l (.string (strOfNums (nameB l a).1)) (nameB l a).2.1 (nameB l a).2.2) := by
  have hda := below_drew (Below.refl w.heap.size w)
  have UC := Aside0.mk (U32_calls (h.below hda))
  have UR := Aside0.mk (u32M_range l a 0)
  have HS := Aside0.mk h.sm
  unfold nameB
  obtain ⟨u, hu⟩ : ∃ u, u = u32M l a 0 := ⟨_, rfl⟩
  rw [← hu] at UC UR ⊢
  obtain ⟨t, ht⟩ : ∃ t, t = takeM l u.1 u.2.1 u.2.2 := ⟨_, rfl⟩
  have TL := Aside0.mk (takeM_len l u.1 u.2.1 u.2.2 h.sm)
  have TC := Aside0.mk (fun (W : World) (hC : Cur W g A c l u.2.1 u.2.2) => Take_calls hC u.1 UR.out.1 UR.out.2)
  rw [← ht] at TL TC ⊢
  clear hu ht
  obtain ⟨un, ua, ue⟩ := u
  obtain ⟨bs, ta, te⟩ := t
  simp only at UC UR TL TC ⊢
  obtain ⟨fe, hfe⟩ : ∃ fe, fe = if te = 0 ∧ V bs = false then (102 : Int) else te := ⟨_, rfl⟩
  rw [← hfe]
  have FE := Aside0.mk hfe
  clear hfe
  have CB := Aside0.mk (fun (W : World) (hW : w.grownBy W (some g)) => (show W.heap[bc]? = some (.cells #[.pointer (some ⟨g, 0, none⟩)] 53 (0, 0)) from (hW.block bc (blk_lt cb) (fun e => hbc (Option.some.inj e))).trans cb))
  have cb0 : w.cell? ⟨bc, 0, none⟩ = some (.pointer (some ⟨g, 0, none⟩)) := (blk_cell cb 0).trans rfl
  have GLT0 := Aside0.mk h.lt
  have GD := Aside0.mk (grown_of_below hda (some g))
  clear h hbc cb hda
  go_enter Try.func112, Try.ntmps112
  go_wp2
  go_region_with (first
    | (go_at_call 73; refine UC.out.mono ?_; rintro e1 w1 ⟨rfl, hg, hc⟩; have HG1 := Aside0.mk (grown_then GD.out hg); have TC1 := Aside0.mk (TC.out w1 hc); have cb1 := (blk_cell (CB.out w1 HG1.out) 0).trans rfl; clear hg hc)
    | (go_at_call 89; refine TC1.out.mono ?_; rintro e1 w2 ⟨r, rfl, ⟨A', c', rfl, hc', hf⟩, hg, hc⟩; have HG2 := Aside0.mk (grown_then HG1.out hg); have HC2 := Aside0.mk hc; have HF := Aside0.mk hf; have GLT := Aside0.mk (show g < w1.heap.size from Nat.lt_of_lt_of_le GLT0.out HG1.out.size); have cb2 := (blk_cell (CB.out w2 HG2.out) 0).trans rfl; have GC := Aside0.mk (good_calls hc); clear hg hc hf hc'))
  all_goals
    have GV := Aside0.mk (Go.Proofs.Ytjhdnlgbboboiaa.Utf.Valid_calls A' c' bs w2 TL.out (Kd.F_now HF.out))
    obtain ⟨vb, hvb⟩ : ∃ vb, vb = V bs := ⟨_, rfl⟩
    have VB := Aside0.mk hvb
    rw [show (Go.Proofs.Ytjhdnlgbboboiaa.Utf.countT (strOfNums bs)).1 = vb from hvb.symm] at GV
    clear hvb
    have CV := Aside0.mk (fun (W : World) (hW : Below w2.heap.size w2 W) => (show (convert 22 9 (.slice A' bs.length c')).run Try.prog W = .ok (.string (strOfNums bs)) W from Kd.C_string Try.underlying22 Try.underlying5 Try.underlying9 (Kd.C_below (Kd.F_now HF.out) hW)))
    by_cases he : te = 0
    · subst he
      rw [show ((0 : Int) == 0) = true from rfl] at GC
      cases vb with
      | true =>
        have fe0 : fe = 0 := by rw [FE.out, if_neg (by rw [← VB.out]; simp)]
        have FE0 := Aside0.mk fe0
        clear FE VB fe0
        go_wp2_with (first
          | (go_at_call 97; refine GC.out.mono ?_; rintro e1 w3 ⟨rfl, rfl⟩)
          | (go_at_call 20; refine GV.out.mono ?_; rintro e1 w4 ⟨rfl, hb⟩; have HB4 := Aside0.mk hb; have cv := CV.out w4 hb; clear hb)
          | fail)
        go_ret
        exact ⟨rfl, grown_then HG2.out (grown_of_below HB4.out _), by rw [FE0.out]; exact HC2.out.below HB4.out⟩
      | false =>
        have fe0 : fe = 102 := by rw [FE.out, if_pos ⟨rfl, VB.out.symm⟩]
        have FE0 := Aside0.mk fe0
        clear FE VB fe0
        go_wp2_with (first
          | (go_at_call 97; refine GC.out.mono ?_; rintro e1 w3 ⟨rfl, rfl⟩)
          | (go_at_call 20; refine GV.out.mono ?_; rintro e1 w4 ⟨rfl, hb⟩; have HB4 := Aside0.mk hb; have hc4 := HC2.out.below hb; have cb4 := (blk_cell ((hb.block _ (blk_lt (CB.out w2 HG2.out))).trans (CB.out w2 HG2.out)) 0).trans rfl; have c1 := hc4.c1; have FL := Aside0.mk (fail_any (hc4.below (below_drew (Below.refl _ _))) 102 (by decide)); clear hb hc4)
          | fail)
        go_region_with (go_at_call 63; refine FL.out.mono ?_; rintro e1 w5 ⟨rfl, hg, hc⟩; have HG5 := Aside0.mk (grown_then (grown_of_below (below_drew (Below.refl _ _)) _) hg); have HC5 := Aside0.mk hc; have cv : (convert 22 9 (.slice A' bs.length c')).run Try.prog w5 = .ok (.string (strOfNums bs)) w5 := Kd.C_string Try.underlying22 Try.underlying5 Try.underlying9 (Kd.F_now (Kd.F_step (Kd.F_step HF.out fun k hk hlt => HB4.out.block k hlt) fun k hk hlt => HG5.out.block k hlt fun e => by have := Option.some.inj e; have := GLT.out; omega)); clear hg hc)
        all_goals
          go_wp2
          go_ret
          exact ⟨rfl, grown_then (grown_then HG2.out (grown_of_below HB4.out _)) HG5.out, by rw [FE0.out]; exact HC5.out⟩
    · rw [show (te == 0) = false from beq_eq_false_iff_ne.2 he] at GC
      have FE0 := Aside0.mk (show fe = te by rw [FE.out, if_neg (fun h => he h.1)])
      have cv := CV.out w2 (Below.refl _ _)
      clear FE VB he
      go_wp2_with (first
        | (go_at_call 97; refine GC.out.mono ?_; rintro e1 w3 ⟨rfl, rfl⟩)
        | fail)
      go_ret
      exact ⟨rfl, HG2.out, by rw [FE0.out]; exact HC2.out⟩
end
end Go.Proofs.Ytjhdnlgbboboiaa.Scan

/- The walks of Name, Count, among, Value, Results. -/
namespace Go.Proofs.Ytjhdnlgbboboiaa.Scan
open Go.Proofs.Ytjhdnlgbboboiaa.Leb Go.Proofs.Ytjhdnlgbboboiaa.Mem Go.RowKit Go.Proofs.YtjhdnlgbboboiaaW.PrintWords Go.Proofs.YtjhdnlgbboboiaaW.PrintLast Go.Proofs.YtjhdnlgbboboiaaW.PrintMore Go.Proofs.Ytjhdnlgbboboiaa.Base
set_option linter.unusedVariables false
set_option linter.unusedSimpArgs false
section
variable {w : World} {g c : Nat} {A : Option Addr} {l : List Int} {a e : Int}
theorem reads111_any (h : Cur w g A c l a 0) (K : Nat) (caps : Array Value) (hcf : ∀ w : World, Sem.run Try.prog (callFunc K caps) w = .ok (.enter K caps) w) (r : List Int × Int × Int)
    (hK : Calls Try.prog K caps w (Did w g A c l (.string (strOfNums r.1)) r.2.1 r.2.2)) : Calls Try.prog 111 #[.pointer (some ⟨g, 0, none⟩), .func (.func K) #[] caps] w (Did w g A c l (.string (strOfNums (rM [] r a).1)) (rM [] r a).2.1 (rM [] r a).2.2) := by
  obtain ⟨v, a1, e1⟩ := r
  unfold rM
  by_cases he : e1 = 0
  · subst he
    simp only [if_true]
    refine (reads111_ok h K caps hcf (fun x _ => x = .string (strOfNums v)) a1 (hK.mono fun _ _ hd => hd.p)).mono ?_
    rintro en w' ⟨r, rfl, rfl, hg, hc⟩
    exact ⟨rfl, hg, hc⟩
  · simp only [if_neg he]
    exact reads111_bad h K caps hcf (fun x _ => x = .string (strOfNums v)) a1 e1 he (hK.mono fun _ _ hd => hd.p)
set_option maxRecDepth 100000 in
theorem Name_calls (h : Cur w g A c l a e) : Calls Try.prog 91 #[.pointer (some ⟨g, 0, none⟩)] w (Did w g A c l (.string (strOfNums (nameM l a e).1)) (nameM l a e).2.1 (nameM l a e).2.2) := by
  have hb := below_alloc (Below.refl w.heap.size w) (.cells #[.pointer (some ⟨g, 0, none⟩)] 53)
  have h1 := h.below hb
  have GB := Aside0.mk (grown_of_below hb (some g))
  have cb := heap_alloc_new w (.cells #[.pointer (some ⟨g, 0, none⟩)] 53)
  have hne : w.heap.size ≠ g := by have := h.lt; omega
  by_cases he : e = 0
  · subst he
    have RC := Aside0.mk (reads111_any h1 112 #[.pointer (some ⟨w.heap.size, 0, none⟩)] (fun w => by go_simp) (nameB l a) (Name1_calls h1 _ hne cb))
    have e1 : nameM l a 0 = rM [] (nameB l a) a := by unfold nameM readsM; rw [if_pos rfl]
    rw [e1]
    clear h hb h1 cb e1 hne
    go_enter Try.func91, Try.ntmps91
    go_wp2_with (first | (go_at_call 111; refine RC.out.mono ?_; rintro e1 w1 ⟨rfl, hg, hc⟩; have HG := Aside0.mk hg; have HC := Aside0.mk hc; clear hg hc) | fail)
    go_ret
    exact ⟨rfl, grown_then GB.out HG.out, HC.out⟩
  · have RC := Aside0.mk (reads111_off h1 he 112 #[.pointer (some ⟨w.heap.size, 0, none⟩)])
    have e1 : nameM l a e = ([], a, e) := by unfold nameM readsM; rw [if_neg he]
    rw [e1]
    clear h hb h1 cb e1 he hne
    go_enter Try.func91, Try.ntmps91
    go_wp2_with (first | (go_at_call 111; refine RC.out.mono ?_; rintro e1 w1 ⟨rfl, hg, hc⟩; have HG := Aside0.mk hg; have HC := Aside0.mk hc; clear hg hc) | fail)
    go_ret
    exact ⟨rfl, grown_then GB.out HG.out, HC.out⟩
theorem Name_nil (w : World) : Calls Try.prog 91 #[.pointer none] w fun en w' => en = .returned (.string ⟨#[]⟩) ∧ Below w.heap.size w w' := by
  have RC := Aside0.mk (reads111_nil (w.alloc (.cells #[.pointer none] 53)) 112 #[.pointer (some ⟨w.heap.size, 0, none⟩)])
  go_enter Try.func91, Try.ntmps91
  go_wp2_with (first | (go_at_call 111; refine RC.out.mono ?_; rintro e1 w1 ⟨rfl, rfl⟩) | fail)
  go_ret
  exact ⟨rfl, below_alloc (Below.refl _ _) _⟩
set_option maxRecDepth 100000 in
set_option maxHeartbeats 1000000 in
theorem Count1_calls (h : Cur w g A c l a 0) (bc : Nat) (hbc : bc ≠ g) (cb : w.heap[bc]? = some (.cells #[.pointer (some ⟨g, 0, none⟩)] 53 (0, 0))) : Calls Try.prog 114 #[.pointer (some ⟨bc, 0, none⟩)] w (Did w g A c l (.int .i64 (countB l a).1) (countB l a).2.1 (countB l a).2.2) := by
  have hu86 := Try.underlying86
  have UC := Aside0.mk (U32_calls h)
  have UR := u32M_range l a 0
  unfold countB
  obtain ⟨u, hu⟩ : ∃ u, u = u32M l a 0 := ⟨_, rfl⟩
  rw [← hu] at UC UR ⊢
  obtain ⟨un, ua, ue⟩ := u
  simp only at UC UR ⊢
  obtain ⟨fe, hfe⟩ : ∃ fe, fe = if un > 4096 then fl 3 ue else ue := ⟨_, rfl⟩
  rw [← hfe]
  have FE := Aside0.mk hfe
  have CB := Aside0.mk (fun (W : World) (hW : w.grownBy W (some g)) => (show W.heap[bc]? = some (.cells #[.pointer (some ⟨g, 0, none⟩)] 53 (0, 0)) from (hW.block bc (blk_lt cb) (fun e => hbc (Option.some.inj e))).trans cb))
  have cb0 : w.cell? ⟨bc, 0, none⟩ = some (.pointer (some ⟨g, 0, none⟩)) := (blk_cell cb 0).trans rfl
  clear h hbc cb hfe hu
  by_cases hn : un > 4096
  · have FE0 := Aside0.mk (show fe = fl 3 ue by rw [FE.out, if_pos hn])
    have d1 : decide (un > 4096) = true := decide_eq_true hn
    clear FE hn
    obtain ⟨u0, u1⟩ := UR
    go_enter Try.func114, Try.ntmps114
    go_wp2_with (first
      | (go_at_call 73; refine UC.out.mono ?_; rintro e1 w1 ⟨rfl, hg, hc⟩; have HG := Aside0.mk hg; have c1 := hc.c1; have cb1 := (blk_cell (CB.out w1 hg) 0).trans rfl; have FL := Aside0.mk (fail_any (hc.below (below_drew (Below.refl _ _))) 3 (by decide)); clear hg hc)
      | fail)
    go_region_with (go_at_call 63; refine FL.out.mono ?_; rintro e1 w5 ⟨rfl, hg, hc⟩; have HG5 := Aside0.mk (grown_then (grown_of_below (below_drew (Below.refl _ _)) _) hg); have HC5 := Aside0.mk hc; clear hg hc)
    all_goals
      go_wp2
      go_ret
      exact ⟨rfl, grown_then HG.out HG5.out, by rw [FE0.out]; exact HC5.out⟩
  · have FE0 := Aside0.mk (show fe = ue by rw [FE.out, if_neg hn])
    have d1 : decide (un > 4096) = false := decide_eq_false hn
    clear FE hn
    obtain ⟨u0, u1⟩ := UR
    go_enter Try.func114, Try.ntmps114
    go_wp2_with (first
      | (go_at_call 73; refine UC.out.mono ?_; rintro e1 w1 ⟨rfl, hg, hc⟩; have HG := Aside0.mk hg; have HC := Aside0.mk hc; clear hg hc)
      | fail)
    go_ret
    exact ⟨rfl, HG.out, by rw [FE0.out]; exact HC.out⟩
set_option maxRecDepth 100000 in
theorem Count_calls (h : Cur w g A c l a e) : Calls Try.prog 93 #[.pointer (some ⟨g, 0, none⟩)] w (Did w g A c l (.int .i64 (countM l a e).1) (countM l a e).2.1 (countM l a e).2.2) := by
  have hb := below_alloc (Below.refl w.heap.size w) (.cells #[.pointer (some ⟨g, 0, none⟩)] 53)
  have h1 := h.below hb
  have GB := Aside0.mk (grown_of_below hb (some g))
  have cb := heap_alloc_new w (.cells #[.pointer (some ⟨g, 0, none⟩)] 53)
  have hne : w.heap.size ≠ g := by have := h.lt; omega
  by_cases he : e = 0
  · subst he
    have RC := Aside0.mk (reads113_any h1 114 #[.pointer (some ⟨w.heap.size, 0, none⟩)] (fun w => by go_simp) (countB l a) (Count1_calls h1 _ hne cb))
    have e1 : countM l a 0 = rM 0 (countB l a) a := by unfold countM readsM; rw [if_pos rfl]
    rw [e1]
    clear h hb h1 cb e1 hne
    go_enter Try.func93, Try.ntmps93
    go_wp2_with (first | (go_at_call 113; refine RC.out.mono ?_; rintro e1 w1 ⟨rfl, hg, hc⟩; have HG := Aside0.mk hg; have HC := Aside0.mk hc; clear hg hc) | fail)
    go_ret
    exact ⟨rfl, grown_then GB.out HG.out, HC.out⟩
  · have RC := Aside0.mk (reads113_off h1 he 114 #[.pointer (some ⟨w.heap.size, 0, none⟩)])
    have e1 : countM l a e = (0, a, e) := by unfold countM readsM; rw [if_neg he]
    rw [e1]
    clear h hb h1 cb e1 he hne
    go_enter Try.func93, Try.ntmps93
    go_wp2_with (first | (go_at_call 113; refine RC.out.mono ?_; rintro e1 w1 ⟨rfl, hg, hc⟩; have HG := Aside0.mk hg; have HC := Aside0.mk hc; clear hg hc) | fail)
    go_ret
    exact ⟨rfl, grown_then GB.out HG.out, HC.out⟩
theorem Count_nil (w : World) : Calls Try.prog 93 #[.pointer none] w fun en w' => en = .returned (.int .i64 0) ∧ Below w.heap.size w w' := by
  have RC := Aside0.mk (reads113_nil (w.alloc (.cells #[.pointer none] 53)) 114 #[.pointer (some ⟨w.heap.size, 0, none⟩)])
  go_enter Try.func93, Try.ntmps93
  go_wp2_with (first | (go_at_call 113; refine RC.out.mono ?_; rintro e1 w1 ⟨rfl, rfl⟩) | fail)
  go_ret
  exact ⟨rfl, below_alloc (Below.refl _ _) _⟩
def amongB (er : Int) (L l : List Int) (a : Int) : Int × Int × Int := if (byteM l a 0).1 ∈ L then byteM l a 0 else (0, (byteM l a 0).2.1, fl er (byteM l a 0).2.2)
def amongM (er : Int) (L l : List Int) (a e : Int) : Int × Int × Int := readsM 0 (amongB er L l a) a e
theorem not_mem_take {L : List Int} {i : Nat} {b : Int} (h : ∀ j, j < i → rd L (j : Int) ≠ b) (hi : i = L.length) : b ∉ L := by
  intro hb
  obtain ⟨j, hj, e⟩ := List.getElem_of_mem hb
  refine h j (by omega) ?_
  simp [rd, List.getD_eq_getElem?_getD, List.getElem?_eq_getElem hj, e]
set_option maxRecDepth 100000 in
set_option maxHeartbeats 1000000 in
theorem among1_calls (h : Cur w g A c l a 0) (bc bl be : Nat) (hbc : bc ≠ g) (hbe : be ≠ g) (hbl : bl ≠ g) (cb : w.heap[bc]? = some (.cells #[.pointer (some ⟨g, 0, none⟩)] 53 (0, 0))) (er : Int) (hn : er ≠ 0) (ce : w.heap[be]? = some (.cells #[.int .i64 er] 41 (0, 0)))
    (AL : Option Addr) (cL : Nat) (L : List Int) (hL : L.length ≤ 1000) (cl : w.heap[bl]? = some (.cells #[.slice AL L.length cL] 22 (0, 0))) (hF : Kd.F ku w (fun k => k ≠ g) AL L.length L) :
    Calls Try.prog 99 #[.pointer (some ⟨bc, 0, none⟩), .pointer (some ⟨bl, 0, none⟩), .pointer (some ⟨be, 0, none⟩)] w (Did w g A c l (.int .u8 (amongB er L l a).1) (amongB er L l a).2.1 (amongB er L l a).2.2) := by
  have hu := Try.underlying22
  have BC := Aside0.mk (Byte_calls h)
  unfold amongB
  obtain ⟨u, hu_⟩ : ∃ u, u = byteM l a 0 := ⟨_, rfl⟩
  rw [← hu_] at BC ⊢
  clear hu_
  obtain ⟨b, ba, be_⟩ := u
  simp only at BC ⊢
  obtain ⟨rr, hrr⟩ : ∃ rr, rr = if b ∈ L then (b, ba, be_) else (0, ba, fl er be_) := ⟨_, rfl⟩
  rw [← hrr]
  have RR := Aside0.mk hrr
  have CB := Aside0.mk (fun (W : World) (hW : w.grownBy W (some g)) => (show W.heap[bc]? = some (.cells #[.pointer (some ⟨g, 0, none⟩)] 53 (0, 0)) ∧ W.heap[be]? = some (.cells #[.int .i64 er] 41 (0, 0)) ∧ W.heap[bl]? = some (.cells #[.slice AL L.length cL] 22 (0, 0)) ∧ Kd.F ku W (fun k => k ≠ g) AL L.length L from
    ⟨(hW.block bc (blk_lt cb) (fun e => hbc (Option.some.inj e))).trans cb, (hW.block be (blk_lt ce) (fun e => hbe (Option.some.inj e))).trans ce, (hW.block bl (blk_lt cl) (fun e => hbl (Option.some.inj e))).trans cl, Kd.F_step hF fun k hk hlt => hW.block k hlt (fun e => hk (Option.some.inj e))⟩))
  have cb0 : w.cell? ⟨bc, 0, none⟩ = some (.pointer (some ⟨g, 0, none⟩)) := (blk_cell cb 0).trans rfl
  have HN := Aside0.mk hn
  have HLL := Aside0.mk hL
  clear h hbc cb hrr hF ce cl hn hL hbe hbl
  go_enter Try.func99, Try.ntmps99
  go_wp2_with (first
    | (go_at_call 82; refine BC.out.mono ?_; rintro e1 w1 ⟨rfl, hg, hc⟩; have HG := Aside0.mk hg; have HC := Aside0.mk hc; have HF := Aside0.mk (CB.out w1 hg).2.2.2; have cl1 := (blk_cell (CB.out w1 hg).2.2.1 0).trans rfl; clear hg hc)
    | fail)
  go_loopg [11] L.length (fun d v11 w' => ∃ i : Nat, v11 = .int .i64 (i : Int) ∧ Aside0 (i + d = L.length ∧ ∀ j, j < i → rd L (j : Int) ≠ b) ∧ w' = w1)
  case atStart => exact ⟨0, rfl, ⟨by omega, fun j hj => by omega⟩, rfl⟩
  case round =>
    obtain ⟨i, rfl, HD, rfl⟩ := hrel
    have hd := HD.out.1
    have hlen := HLL.out
    cases gk with
    | zero =>
      have e1 : decide (i < L.length) = false := decide_eq_false (by omega)
      have RR0 := Aside0.mk (show rr = (0, ba, fl er be_) by rw [RR.out, if_neg (not_mem_take HD.out.2 (by omega))])
      have q1 := (blk_cell (CB.out wr HG.out).1 0).trans rfl
      have q2 := (blk_cell (CB.out wr HG.out).2.1 0).trans rfl
      have q3 := HC.out.c1
      have FL := Aside0.mk (fail_any (HC.out.below (below_drew (Below.refl _ _))) er HN.out)
      clear hd hlen RR
      go_wp2
      go_region_with (go_at_call 63; refine FL.out.mono ?_; rintro e1 w5 ⟨rfl, hg, hc⟩; have HG5 := Aside0.mk (grown_then (grown_of_below (below_drew (Below.refl _ _)) _) hg); have HC5 := Aside0.mk hc; clear hg hc)
      all_goals
        go_wp2
        go_ret
        exact ⟨by rw [RR0.out]; rfl, grown_then HG.out HG5.out, by rw [RR0.out]; exact HC5.out⟩
    | succ d =>
      have hi : i < L.length := by omega
      have e1 : decide (i < L.length) = true := decide_eq_true hi
      have hiI : (i : Int) ≤ 1000 := by omega
      have hw1 : wrap64 ((i : Int) + 1) = (i : Int) + 1 := by unfold wrap64; omega
      obtain ⟨ad, eA, x0⟩ := ReadsOf.at_ (Kd.reads_of_C (enc := Value.int .u8) (d := 0) (h1 := fun _ => rfl) (Kd.F_now HF.out)) (i : Int) (by omega) (by omega)
      subst eA
      rw [Int.toNat_natCast] at x0
      obtain ⟨X, hX⟩ : ∃ X, X = rdOf 0 L (i : Int) := ⟨_, rfl⟩
      rw [← hX] at x0
      have HX := Aside0.mk (show rd L (i : Int) = X from hX.symm)
      clear hX hd hlen
      by_cases hxb : X = b
      · have RR0 := Aside0.mk (show rr = (b, ba, be_) by
          rw [RR.out, if_pos]
          rw [← hxb, ← HX.out]
          simp [rd, List.getD_eq_getElem?_getD, List.getElem?_eq_getElem hi])
        have d1 : ((X : Int) == b) = true := beq_iff_eq.2 hxb
        clear hxb RR
        go_wp2
        go_ret
        exact ⟨by rw [RR0.out]; rfl, HG.out, by rw [RR0.out]; exact HC.out⟩
      · have d1 : ((X : Int) == b) = false := beq_eq_false_iff_ne.2 hxb
        have HXB := Aside0.mk hxb
        clear hxb
        go_wp2
        go_roundg d
        case measure => omega
        case rel =>
          refine ⟨i + 1, by push_cast; rfl, ⟨by have := HD.out.1; omega, fun j hj => ?_⟩, rfl⟩
          by_cases hji : j = i
          · subst hji
            rw [HX.out]
            exact HXB.out
          · exact HD.out.2 j (by omega)
end
end Go.Proofs.Ytjhdnlgbboboiaa.Scan
