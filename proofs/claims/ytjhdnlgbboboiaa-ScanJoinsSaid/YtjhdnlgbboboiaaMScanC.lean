/- The document's reader in memory; its methods answer the model's functions. -/
import Derived.Test.YtjhdnlgbboboiaaMScanB
import Derived.Lib.EndianBits
import Derived.Test.YtjhdnlgbboboiaaMRefs
namespace Go.Proofs.Ytjhdnlgbboboiaa.Scan
open Go.Proofs.Ytjhdnlgbboboiaa.Leb Go.Proofs.Ytjhdnlgbboboiaa.Mem Go.RowKit Go.Proofs.YtjhdnlgbboboiaaW.PrintWords Go.Proofs.YtjhdnlgbboboiaaW.PrintLast Go.Proofs.YtjhdnlgbboboiaaW.PrintMore Go.Proofs.Ytjhdnlgbboboiaa.Base
set_option linter.unusedVariables false
set_option linter.unusedSimpArgs false
structure Rdr (W : World) (g : Nat) (A : Option Addr) (c : Nat) (l : List Int) (a e : Int) : Prop where
  box : W.heap[g]? = some (.cells #[.slice A l.length c, .int .i64 a, .int .i64 e] 57 (0, 0))
  bytes : Kd.F ku W (fun k => k ≠ g) A l.length l
  cap : l.length ≤ c
  lo : 0 ≤ a
  hi : a ≤ (l.length : Int)
  ok : okB l
  sm : l.length ≤ 1000000
section
variable {W W1 : World} {g c : Nat} {A : Option Addr} {l : List Int} {a e : Int}
theorem Rdr.lt (h : Rdr W g A c l a e) : g < W.heap.size := blk_lt h.box
theorem Rdr.below (h : Rdr W g A c l a e) (hb : Below W.heap.size W W1) : Rdr W1 g A c l a e := ⟨(hb.block g h.lt).trans h.box, Kd.F_step h.bytes fun k _ hlt => hb.block k hlt, h.cap, h.lo, h.hi, h.ok, h.sm⟩
theorem Rdr.set_at (h : Rdr W g A c l a e) (x : Int) (h0 : 0 ≤ x) (h1 : x ≤ (l.length : Int)) : Rdr (W.setCell ⟨g, 1, none⟩ (.int .i64 x)) g A c l x e :=
  ⟨blk_set h.box 1 (.int .i64 x), Kd.F_step h.bytes fun k hk _ => Below.heap_setCell W ⟨g, 1, none⟩ _ k hk, h.cap, h0, h1, h.ok, h.sm⟩
theorem Rdr.set_e (h : Rdr W g A c l a e) (x : Int) : Rdr (W.setCell ⟨g, 2, none⟩ (.int .i64 x)) g A c l a x :=
  ⟨blk_set h.box 2 (.int .i64 x), Kd.F_step h.bytes fun k hk _ => Below.heap_setCell W ⟨g, 2, none⟩ _ k hk, h.cap, h.lo, h.hi, h.ok, h.sm⟩
theorem Rdr.c0 (h : Rdr W g A c l a e) : W.cell? ⟨g, 0, none⟩ = some (.slice A l.length c) := (blk_cell h.box 0).trans rfl
theorem Rdr.c1 (h : Rdr W g A c l a e) : W.cell? ⟨g, 1, none⟩ = some (.int .i64 a) := (blk_cell h.box 1).trans rfl
theorem Rdr.c2 (h : Rdr W g A c l a e) : W.cell? ⟨g, 2, none⟩ = some (.int .i64 e) := (blk_cell h.box 2).trans rfl
theorem Rdr.f (h : Rdr W g A c l a e) (o : Nat) : W.frozen? ⟨g, o, none⟩ = false := blk_frozen h.box o
end
def RDid (w : World) (g : Nat) (A : Option Addr) (c : Nat) (l : List Int) (r : Value) (a e : Int) (en : Ending) (w' : World) : Prop := en = .returned r ∧ w.grownBy w' (some g) ∧ Rdr w' g A c l a e
def RDidP (w : World) (g : Nat) (A : Option Addr) (c : Nat) (l : List Int) (P : Value → World → Prop) (a e : Int) (en : Ending) (w' : World) : Prop := ∃ r, en = .returned r ∧ P r w' ∧ w.grownBy w' (some g) ∧ Rdr w' g A c l a e
section
variable {w w2 W W' : World} {g c : Nat} {A : Option Addr} {l : List Int} {a e a1 e1 : Int}
/-- The reader behind a call, where a block of the caller's has changed too. -/
theorem Rdr.off (h : Rdr w g A c l a e) {t : Nat} (ht : w.heap.size ≤ t) (hg : w.grownBy w2 (some g)) (hc : Rdr w2 g A c l a1 e1) (G : w2.grownBy W' (some t)) : w.grownBy W' (some g) ∧ Rdr W' g A c l a1 e1 := by
  have hlt := h.lt
  have hW : w.grownBy W' (some g) := ⟨G.os.trans hg.os, G.tape.trans hg.tape, G.output.trans hg.output, Nat.le_trans hg.size G.size, fun i hi hn =>
    (G.block i (Nat.lt_of_lt_of_le hi hg.size) (fun e => by have := Option.some.inj e; omega)).trans (hg.block i hi hn)⟩
  refine ⟨hW, (G.block g hc.lt (fun e => by have := Option.some.inj e; omega)).trans hc.box, ?_, hc.cap, hc.lo, hc.hi, hc.ok, hc.sm⟩
  exact Kd.F_mono (Kd.F_step (Foot.bound h.bytes) fun k hk hlt => hW.block k hlt (fun e => hk.1 (Option.some.inj e))) fun k hk => hk.1
theorem RBack_calls (h : Rdr w g A c l a e) (b : Int) (b0 : 0 ≤ b) (b1 : b ≤ (l.length : Int)) : Calls Try.prog 76 #[.pointer (some ⟨g, 0, none⟩), .int .i64 b] w (RDid w g A c l (.tuple #[]) (if e = 0 then a else b) e) := by
  have x2 := h.c2
  have x1 := h.c1
  have f1 := h.f 1
  have H := Aside0.mk h
  by_cases he : e = 0
  · rw [if_pos he]
    have d1 : ((e : Int) != 0) = false := by rw [he]; rfl
    clear h he
    go_enter Try.func76, Try.ntmps76
    go_wp2
    go_end0
    exact ⟨rfl, grown_refl _ _, H.out⟩
  · rw [if_neg he]
    have d1 : ((e : Int) != 0) = true := by rw [bne_iff_ne]; exact he
    clear h he
    go_enter Try.func76, Try.ntmps76
    go_wp2
    go_end0
    exact ⟨rfl, grown_set _ _ _ _, H.out.set_at b b0 b1⟩
theorem RFail_calls (h : Rdr w g A c l a e) (er : Int) : Calls Try.prog 61 #[.pointer (some ⟨g, 0, none⟩), .int .i64 er] w (RDid w g A c l (.tuple #[]) a (fl er e)) := by
  have x2 := h.c2
  have f2 := h.f 2
  have H := Aside0.mk h
  unfold fl
  by_cases he : e = 0
  · rw [if_pos he]
    have d1 : ((e : Int) == 0) = true := beq_iff_eq.2 he
    clear h he
    go_enter Try.func61, Try.ntmps61
    go_wp2
    go_end0
    exact ⟨rfl, grown_set _ _ _ _, H.out.set_e er⟩
  · rw [if_neg he]
    have d1 : ((e : Int) == 0) = false := beq_eq_false_iff_ne.2 he
    clear h he
    go_enter Try.func61, Try.ntmps61
    go_wp2
    go_end0
    exact ⟨rfl, grown_refl _ _, H.out⟩
theorem byteM_end (h : a ≥ (l.length : Int)) : byteM l a 0 = (0, a, 100) := by
  have h1 : 1 > (l.length : Int) - a := by omega
  unfold byteM readsM rM byteB
  simp only [if_true, if_pos h1]
  rfl
theorem byteM_in (h : ¬ a ≥ (l.length : Int)) : byteM l a 0 = (rd l a, a + 1, 0) := by
  have h1 : ¬ 1 > (l.length : Int) - a := by omega
  unfold byteM readsM rM byteB
  simp only [if_true, if_neg h1]
set_option maxRecDepth 100000 in
theorem RByte_calls (h : Rdr w g A c l a e) : Calls Try.prog 83 #[.pointer (some ⟨g, 0, none⟩)] w (RDid w g A c l (.int .u8 (byteM l a e).1) (byteM l a e).2.1 (byteM l a e).2.2) := by
  have x2 := h.c2
  have x1 := h.c1
  have x0 := h.c0
  have f1 := h.f 1
  have f2 := h.f 2
  have hsm := h.sm
  have hlo := h.lo
  have hhi := h.hi
  have H := Aside0.mk h
  have hu := Try.underlying22
  by_cases he : e = 0
  · subst he
    by_cases hn : a ≥ (l.length : Int)
    · have e1 : byteM l a 0 = (0, a, 100) := byteM_end hn
      rw [e1]
      have d1 : decide ((a : Int) ≥ (l.length : Int)) = true := decide_eq_true hn
      have d2 : decide ((l.length : Int) ≤ a) = true := decide_eq_true hn
      clear h e1 hhi hlo hsm
      go_enter Try.func83, Try.ntmps83
      go_wp2
      go_region
      all_goals
        go_wp2
        go_ret
        exact ⟨rfl, grown_then (grown_of_below (below_drew (Below.refl _ _)) _) (grown_set _ _ _ _), (H.out.below (below_drew (Below.refl _ _))).set_e 100⟩
    · have e1 : byteM l a 0 = (rd l a, a + 1, 0) := byteM_in hn
      rw [e1]
      have d1 : decide ((a : Int) ≥ (l.length : Int)) = false := decide_eq_false hn
      have d2 : decide ((l.length : Int) ≤ a) = false := decide_eq_false hn
      have hl3 : (l.length : Int) ≤ 1000000 := by omega
      have hw1 : wrap64 (a + 1) = a + 1 := by unfold wrap64; omega
      have hw2 : wrap64 (a + 1 - 1) = a := by unfold wrap64; omega
      obtain ⟨b, rfl⟩ := Int.eq_ofNat_of_zero_le hlo
      have hbl : b < l.length := by omega
      clear h e1
      go_enter Try.func83, Try.ntmps83
      go_wp2
      go_quiet (fail)
      go_wp2
      have HW := Aside0.mk (pw_below_drewN (Below.refl w.heap.size w) nq)
      have H2 := (H.out.below HW.out).set_at ((b : Int) + 1) (by omega) (by omega)
      obtain ⟨ad, eA, y0⟩ := ReadsOf.at_ (Kd.reads_of_C (enc := Value.int .u8) (d := 0) (h1 := fun _ => rfl) (Kd.F_now H2.bytes)) (b : Int) (by omega) (by omega)
      subst eA
      rw [Int.toNat_natCast] at y0
      obtain ⟨X, hX⟩ : ∃ X, X = rd l (b : Int) := ⟨_, rfl⟩
      rw [show rdOf 0 l (b : Int) = X from hX.symm] at y0
      have HX := Aside0.mk hX
      clear x0 x1 x2 f1 f2
      have z0 := H2.c0
      have z1 := H2.c1
      have GS := Aside0.mk (grown_then (grown_of_below HW.out (some g)) (grown_set (w.drewN nq) g 1 (.int .i64 ((b : Int) + 1))))
      replace H2 := Aside0.mk H2
      obtain ⟨w2, hw2⟩ : ∃ w2, w2 = (w.drewN nq).setCell ⟨g, 1, none⟩ (.int .i64 ((b : Int) + 1)) := ⟨_, rfl⟩
      rw [← hw2] at GS H2 z0 z1 y0
      rw [← hw2]
      clear hX hw2 HW
      go_quiet (fail)
      go_wp2
      go_ret
      have hbd := fun k => pw_below_drewN (Below.refl w2.heap.size w2) k
      exact ⟨by rw [← HX.out]; rfl, grown_then GS.out (grown_of_below (hbd _) _), H2.out.below (hbd _)⟩
  · have e1 : byteM l a e = (0, a, e) := by unfold byteM readsM; rw [if_neg he]
    rw [e1]
    have d1 : ((e : Int) != 0) = true := by rw [bne_iff_ne]; exact he
    clear h he e1 hhi hlo hsm
    go_enter Try.func83, Try.ntmps83
    go_wp2
    go_ret
    exact ⟨rfl, grown_refl _ _, H.out⟩
end
end Go.Proofs.Ytjhdnlgbboboiaa.Scan

/- The reader's Take, Fixed, Among, Value, Results. -/
namespace Go.Proofs.Ytjhdnlgbboboiaa.Scan
open Go.Proofs.Ytjhdnlgbboboiaa.Leb Go.Proofs.Ytjhdnlgbboboiaa.Mem Go.RowKit Go.Proofs.YtjhdnlgbboboiaaW.PrintWords Go.Proofs.YtjhdnlgbboboiaaW.PrintLast Go.Proofs.YtjhdnlgbboboiaaW.PrintMore Go.Proofs.Ytjhdnlgbboboiaa.Base
set_option linter.unusedVariables false
set_option linter.unusedSimpArgs false
/-- Bytes that are read, and lie in no block of the reader's. -/
def ShareP (g : Nat) (bs : List Int) (r : Value) (w' : World) : Prop := ∃ A' c', r = .slice A' bs.length c' ∧ bs.length ≤ c' ∧ Kd.F ku w' (fun k => k ≠ g) A' bs.length bs
theorem ShareP.nil (g : Nat) (w' : World) : ShareP g [] (.slice none 0 0) w' := ⟨none, 0, rfl, Nat.le_refl _, fun W' _ => Kd.C_nil _ W'⟩
section
variable {w w2 W W' : World} {g c : Nat} {A : Option Addr} {l : List Int} {a e a1 e1 : Int}
theorem takeM_no (n : Int) (h : n > (l.length : Int) - a) : takeM l n a 0 = ([], a, 100) := by
  unfold takeM readsM rM takeB
  simp only [if_true, if_pos h]
  rfl
theorem takeM_yes (n : Int) (h : ¬ n > (l.length : Int) - a) : takeM l n a 0 = ((l.drop a.toNat).take n.toNat, a + n, 0) := by
  unfold takeM readsM rM takeB
  simp only [if_true, if_neg h]
set_option maxRecDepth 100000 in
set_option maxHeartbeats 1000000 in
theorem RTake_calls (h : Rdr w g A c l a e) (n : Int) (n0 : 0 ≤ n) (n1 : n < 4294967296) : Calls Try.prog 90 #[.pointer (some ⟨g, 0, none⟩), .int .u64 n] w (RDidP w g A c l (ShareP g (takeM l n a e).1) (takeM l n a e).2.1 (takeM l n a e).2.2) := by
  have H := Aside0.mk h
  have x2 := h.c2
  have x1 := h.c1
  have x0 := h.c0
  have f1 := h.f 1
  have f2 := h.f 2
  have hsm := h.sm
  have hlo := h.lo
  have hhi := h.hi
  have hcap := h.cap
  have hu := Try.underlying22
  by_cases he : e = 0
  · subst he
    have hl3 : (l.length : Int) ≤ 1000000 := by omega
    have hw0 : wrap64 ((l.length : Int) - a) = (l.length : Int) - a := by unfold wrap64; omega
    have hd0 : 0 ≤ (l.length : Int) - a := by omega
    by_cases hn : n > (l.length : Int) - a
    · rw [takeM_no n hn]
      have d1 : decide (n > (l.length : Int) - a) = true := decide_eq_true hn
      have d2 : decide ((l.length : Int) - a < n) = true := decide_eq_true hn
      clear h
      go_enter Try.func90, Try.ntmps90
      go_wp2
      go_region
      all_goals
        go_wp2
        go_ret
        exact ⟨_, rfl, ShareP.nil _ _, grown_then (grown_of_below (below_drew (Below.refl _ _)) _) (grown_set _ _ _ _), (H.out.below (below_drew (Below.refl _ _))).set_e 100⟩
    · rw [takeM_yes n hn]
      have d1 : decide (n > (l.length : Int) - a) = false := decide_eq_false hn
      have d2 : decide ((l.length : Int) - a < n) = false := decide_eq_false hn
      obtain ⟨b, rfl⟩ := Int.eq_ofNat_of_zero_le hlo
      obtain ⟨m, rfl⟩ := Int.eq_ofNat_of_zero_le n0
      have hbm : b + m ≤ l.length := by omega
      have hw1 : wrap64 ((b : Int) + (m : Int)) = (b : Int) + (m : Int) := by unfold wrap64; omega
      have hw2 : wrap64 ((b : Int) + (m : Int) - (m : Int)) = (b : Int) := by unfold wrap64; omega
      obtain ⟨B', hB'⟩ : ∃ B', B' = if c = b then A else A.map (·.add (b * 1)) := ⟨_, rfl⟩
      have SL : ∀ W : World, (Instr.sliceAt 22 (.slice A l.length c) (some (.int .i64 (b : Int))) (some (.int .i64 ((b : Int) + (m : Int)))) none).run Try.prog W = .ok (.slice B' m (c - b)) W := fun W => by
        have := slice22 W A l.length c b (b + m) (by omega) (by omega)
        rw [hB', show ((b : Int) + (m : Int)) = ((b + m : Nat) : Int) by push_cast; rfl, this]
        rw [Nat.add_sub_cancel_left]
      have hlen : ((l.drop b).take m).length = m := by rw [List.length_take, List.length_drop]; omega
      have RD := Aside0.mk (fun (W : World) (hF : Kd.F ku W (fun k => k ≠ g) A l.length l) => (show Kd.F ku W (fun k => k ≠ g) B' m ((l.drop b).take m) from by
        have := Kd.F_mid hF (show b ≤ b + m by omega) hbm hcap
        rw [show ((l.take (b + m)).drop b) = (l.drop b).take m from by rw [List.drop_take]; congr 1; omega] at this
        rw [hlen] at this
        rw [hB']
        exact this))
      have CB := Aside0.mk (show m ≤ c - b by omega)
      have HL := Aside0.mk hlen
      have HBM := Aside0.mk hbm
      have hm1 : (m : Int) ≤ 1000000 := by omega
      have hb1 : (b : Int) ≤ 1000000 := by omega
      have hsub : (b : Int) + (m : Int) - (m : Int) = (b : Int) := by omega
      clear h hB' hlen
      go_enter Try.func90, Try.ntmps90
      go_wp2
      go_quiet (fail)
      go_wp2
      have HW := Aside0.mk (pw_below_drewN (Below.refl w.heap.size w) nq)
      have H2 := (H.out.below HW.out).set_at ((b : Int) + (m : Int)) (by omega) (by omega)
      clear x0 x1 x2 f1 f2
      have z0 := H2.c0
      have z1 := H2.c1
      have GS := Aside0.mk (grown_then (grown_of_below HW.out (some g)) (grown_set (w.drewN nq) g 1 (.int .i64 ((b : Int) + (m : Int)))))
      replace H2 := Aside0.mk H2
      obtain ⟨w2, hw2⟩ : ∃ w2, w2 = (w.drewN nq).setCell ⟨g, 1, none⟩ (.int .i64 ((b : Int) + (m : Int))) := ⟨_, rfl⟩
      rw [← hw2] at GS H2 z0 z1
      rw [← hw2]
      clear hw2 HW hbm
      go_quiet (fail)
      go_wp2
      go_ret
      have hbd := fun k => pw_below_drewN (Below.refl w2.heap.size w2) k
      refine ⟨_, rfl, ⟨B', c - b, ?_, ?_, ?_⟩, grown_then GS.out (grown_of_below (hbd _) _), H2.out.below (hbd _)⟩
      · show Value.slice B' m (c - b) = .slice B' ((l.drop b).take m).length (c - b)
        rw [HL.out]
      · show ((l.drop b).take m).length ≤ c - b
        rw [HL.out]
        exact CB.out
      · show Kd.F ku _ (fun k => k ≠ g) B' ((l.drop b).take m).length ((l.drop b).take m)
        rw [HL.out]
        exact RD.out _ (Kd.F_step H2.out.bytes fun k _ hlt => rfl)
  · have e1 : takeM l n a e = ([], a, e) := by unfold takeM readsM; rw [if_neg he]
    rw [e1]
    have d1 : ((e : Int) != 0) = true := by rw [bne_iff_ne]; exact he
    clear h he e1 hhi hlo hsm
    go_enter Try.func90, Try.ntmps90
    go_wp2
    go_ret
    exact ⟨_, rfl, ShareP.nil _ _, grown_refl _ _, H.out⟩
end
end Go.Proofs.Ytjhdnlgbboboiaa.Scan

/- The reader's Fixed. -/
namespace Go.Proofs.Ytjhdnlgbboboiaa.Scan
open Go.Proofs.Ytjhdnlgbboboiaa.Leb Go.Proofs.Ytjhdnlgbboboiaa.Mem Go.RowKit Go.Proofs.YtjhdnlgbboboiaaW.PrintWords Go.Proofs.YtjhdnlgbboboiaaW.PrintLast Go.Proofs.YtjhdnlgbboboiaaW.PrintMore Go.Proofs.Ytjhdnlgbboboiaa.Base
set_option linter.unusedVariables false
set_option linter.unusedSimpArgs false
def fixR (l : List Int) : Nat → Int → Int → Int → Int → Int × Int × Int
  | 0, x, u, a, e => (x, a, e)
  | d + 1, x, u, a, e => fixR l d (IntKind.u64.wrap (x + IntKind.u64.wrap ((byteM l a e).1 * u))) (IntKind.u64.wrap (256 * u)) (byteM l a e).2.1 (byteM l a e).2.2
def rfixM (n : Nat) (l : List Int) (a e : Int) : Int × Int × Int := if (fixR l n 0 1 a e).2.2 = 0 then fixR l n 0 1 a e else (0, a, (fixR l n 0 1 a e).2.2)
theorem byteM_off (l : List Int) (a e : Int) (he : e ≠ 0) : byteM l a e = (0, a, e) := by unfold byteM readsM; rw [if_neg he]
theorem byteM_range {l : List Int} {a e : Int} (hok : okB l) (a0 : 0 ≤ a) : 0 ≤ (byteM l a e).1 ∧ (byteM l a e).1 < 256 := by
  by_cases he : e = 0
  · subst he
    by_cases ha : a ≥ (l.length : Int)
    · rw [byteM_end ha]; simp
    · rw [byteM_in ha]
      obtain ⟨b, rfl⟩ := Int.eq_ofNat_of_zero_le a0
      have hbl : b < l.length := by omega
      exact hok (rd l (b : Int)) (by simp [rd, hbl])
  · rw [byteM_off l a e he]; simp
theorem fixR_off (l : List Int) (d : Nat) : ∀ (x u a e : Int), e ≠ 0 → (fixR l d x u a e).2 = (a, e) := by
  induction d with
  | zero => intro x u a e he; rfl
  | succ d ih => intro x u a e he; unfold fixR; rw [byteM_off l a e he]; exact ih _ _ _ _ he
theorem fixR_short (l : List Int) (d : Nat) : ∀ (x u a : Int), (d : Int) > (l.length : Int) - a → a ≤ (l.length : Int) → (fixR l d x u a 0).2.2 = 100 := by
  induction d with
  | zero => intro x u a h h1; exfalso; simp at h; omega
  | succ d ih =>
    intro x u a h h1
    unfold fixR
    by_cases ha : a ≥ (l.length : Int)
    · rw [byteM_end ha]
      rw [fixR_off l d _ _ _ _ (show (100 : Int) ≠ 0 by decide)]
    · rw [byteM_in ha]
      exact ih _ _ (a + 1) (by push_cast at h; omega) (by omega)
def P8 (i : Nat) : Int := 2 ^ (8 * i)
theorem eight {i : Nat} (h : i ≤ 7) : i = 0 ∨ i = 1 ∨ i = 2 ∨ i = 3 ∨ i = 4 ∨ i = 5 ∨ i = 6 ∨ i = 7 := by omega
theorem orAt_add (i : Nat) (hi : i ≤ 7) (x b : Int) (x0 : 0 ≤ x) (x1 : x < P8 i) (b0 : 0 ≤ b) (b1 : b < 256) : orAt x b i = x + b * P8 i := by
  unfold orAt
  rw [show (8 * (i : Int)).toNat = 8 * i from by omega, IntKind.wrap_u64]
  have e : (2 : Int) ^ (8 * i) = P8 i := rfl
  rw [e]
  have hlt : b * P8 i < 18446744073709551616 := by
    rcases eight hi with rfl | rfl | rfl | rfl | rfl | rfl | rfl | rfl <;> simp only [P8, Nat.reduceMul, Int.reducePow] <;> omega
  have h0 : 0 ≤ b * P8 i := by
    rcases eight hi with rfl | rfl | rfl | rfl | rfl | rfl | rfl | rfl <;> simp only [P8, Nat.reduceMul, Int.reducePow] <;> omega
  have em : b * P8 i % 18446744073709551616 = b * P8 i := Int.emod_eq_of_lt h0 hlt
  rw [em]
  have hp : P8 i ≤ 2 ^ 64 := by
    rcases eight hi with rfl | rfl | rfl | rfl | rfl | rfl | rfl | rfl <;> simp only [P8, Nat.reduceMul, Int.reducePow] <;> omega
  have hd : b * P8 i % 2 ^ (8 * i) = 0 := by
    rw [e]
    exact Int.mul_emod_left b (P8 i)
  exact bits_join_low .u64 64 (by decide) (fun n h0 h1 => by rw [IntKind.wrap_u64]; omega) (8 * i) x _ x0 x1 (by omega) h0 hd (by simpa using hlt)
theorem fix_step (i : Nat) (hi : i ≤ 7) (x b : Int) (x0 : 0 ≤ x) (x1 : x < P8 i) (b0 : 0 ≤ b) (b1 : b < 256) : IntKind.u64.wrap (x + IntKind.u64.wrap (b * P8 i)) = orAt x b i ∧ 0 ≤ orAt x b i ∧ orAt x b i < P8 (i + 1) := by
  rw [orAt_add i hi x b x0 x1 b0 b1, IntKind.wrap_u64, IntKind.wrap_u64]
  rcases eight hi with rfl | rfl | rfl | rfl | rfl | rfl | rfl | rfl <;> simp only [P8, Nat.reduceMul, Nat.reduceAdd, Int.reducePow] at x1 ⊢ <;> omega
theorem unit_step (i : Nat) (hi : i ≤ 6) : IntKind.u64.wrap (256 * P8 i) = P8 (i + 1) := by
  rw [IntKind.wrap_u64]
  have : i = 0 ∨ i = 1 ∨ i = 2 ∨ i = 3 ∨ i = 4 ∨ i = 5 ∨ i = 6 := by omega
  rcases this with rfl | rfl | rfl | rfl | rfl | rfl | rfl <;> simp only [P8, Nat.reduceMul, Nat.reduceAdd, Int.reducePow] <;> omega
theorem fixR_long (l : List Int) (hok : okB l) (d : Nat) : ∀ (i : Nat) (x u : Int) (b : Nat), i + d ≤ 8 → (d ≠ 0 → u = P8 i) → 0 ≤ x → x < P8 i → b + d ≤ l.length → fixR l d x u (b : Int) 0 = (fixL ((l.drop b).take d) i x, (b : Int) + d, 0) := by
  induction d with
  | zero => intro i x u b h hu x0 x1 hb; simp [fixR, fixL]
  | succ d ih =>
    intro i x u b h hu x0 x1 hb
    have hbl : b < l.length := by omega
    obtain rfl := hu (by omega)
    have hx := hok (rd l (b : Int)) (by simp [rd, hbl])
    have st := fix_step i (by omega) x (rd l (b : Int)) x0 x1 hx.1 hx.2
    unfold fixR
    rw [byteM_in (by omega)]
    simp only
    rw [st.1, drop_cons l b hbl, List.take_succ_cons]
    have := ih (i + 1) (orAt x (rd l (b : Int)) i) (IntKind.u64.wrap (256 * P8 i)) (b + 1) (by omega) (fun hd => unit_step i (by omega)) st.2.1 st.2.2 (by omega)
    rw [show ((b : Int) + 1) = ((b + 1 : Nat) : Int) by push_cast; rfl, this]
    show _ = (fixL ((l.drop (b + 1)).take d) (i + 1) (orAt x (rd l (b : Int)) i), _, 0)
    rw [show ((b + 1 : Nat) : Int) + (d : Int) = (b : Int) + ((d + 1 : Nat) : Int) by push_cast; omega]
theorem rfixM_is (n : Nat) (hn : n = 4 ∨ n = 8) (l : List Int) (hok : okB l) (a e : Int) (a0 : 0 ≤ a) (a1 : a ≤ (l.length : Int)) : rfixM n l a e = fixedM (n : Int) l a e := by
  unfold rfixM fixedM readsM
  by_cases he : e = 0
  · subst he
    rw [if_pos rfl]
    have hn2 : ¬ ((n : Int) ≠ 4 ∧ (n : Int) ≠ 8) := by omega
    unfold rM fixedB
    by_cases hs : (n : Int) > (l.length : Int) - a
    · rw [fixR_short l n 0 1 a hs a1]
      simp only [if_neg hn2, if_pos hs]
      rfl
    · obtain ⟨b, rfl⟩ := Int.eq_ofNat_of_zero_le a0
      rw [fixR_long l hok n 0 0 1 b (by omega) (fun _ => rfl) (Int.le_refl _) (by decide) (by omega)]
      simp only [if_neg hn2, if_neg hs, if_true, Int.toNat_natCast]
  · rw [if_neg he, fixR_off l n 0 1 a e he]
    simp only [if_neg he]
section
variable {w w2 W W' : World} {g c : Nat} {A : Option Addr} {l : List Int} {a e a1 e1 : Int}
set_option maxRecDepth 100000 in
theorem RFixed_else (h : Rdr w g A c l a e) (n : Int) (hn : n ≠ 4 ∧ n ≠ 8) : Calls Try.prog 88 #[.pointer (some ⟨g, 0, none⟩), .int .i64 n] w (RDid w g A c l (.int .u64 (fixedM n l a e).1) (fixedM n l a e).2.1 (fixedM n l a e).2.2) := by
  have e1 : fixedM n l a e = (0, a, fl 2 e) := by
    unfold fixedM readsM rM fixedB fl
    by_cases he : e = 0
    · simp only [if_pos he, if_pos hn]
      rfl
    · simp only [if_neg he]
  rw [e1]
  have d1 : ((n : Int) != 4) = true := by rw [bne_iff_ne]; exact hn.1
  have d2 : ((n : Int) != 8) = true := by rw [bne_iff_ne]; exact hn.2
  have FC := Aside0.mk (RFail_calls h 2)
  have x1 := h.c1
  clear h hn e1
  go_enter Try.func88, Try.ntmps88
  go_wp2_with (first
    | (go_at_call 61; refine FC.out.mono ?_; rintro e1 w1 ⟨rfl, hg, hc⟩; have HG := Aside0.mk hg; have HC := Aside0.mk hc; clear hg hc)
    | fail)
  go_ret
  exact ⟨rfl, HG.out, HC.out⟩
set_option maxRecDepth 100000 in
set_option maxHeartbeats 1000000 in
theorem RFixed_4 (h : Rdr w g A c l a e) : Calls Try.prog 88 #[.pointer (some ⟨g, 0, none⟩), .int .i64 4] w (RDid w g A c l (.int .u64 (fixedM 4 l a e).1) (fixedM 4 l a e).2.1 (fixedM 4 l a e).2.2) := by
  have e1 := rfixM_is 4 (by decide) l h.ok a e h.lo h.hi
  rw [show ((4 : Nat) : Int) = 4 from rfl] at e1
  rw [← e1]
  obtain ⟨rr, hrr⟩ : ∃ rr, rr = rfixM 4 l a e := ⟨_, rfl⟩
  rw [← hrr]
  unfold rfixM at hrr
  obtain ⟨R, hR⟩ : ∃ R, R = fixR l 4 0 1 a e := ⟨_, rfl⟩
  rw [← hR] at hrr
  have HR := Aside0.mk hR
  have RR := Aside0.mk hrr
  have x1 := h.c1
  have AB := Aside0.mk (And.intro h.lo h.hi)
  have H := Aside0.mk h
  have OK := Aside0.mk h.ok
  clear h e1 hR hrr
  go_enter Try.func88, Try.ntmps88
  go_wp2
  go_loopg [6, 7, 8] 4 (fun d v6 v7 v8 w' => ∃ (i : Nat) (x u a1 e1 : Int), v6 = .int .u64 x ∧ v7 = .int .u64 u ∧ v8 = .int .i64 (i : Int) ∧ Aside0 (i + d = 4) ∧ (0 ≤ x ∧ x < 18446744073709551616) ∧ (0 ≤ u ∧ u < 18446744073709551616) ∧ Aside0 (w.grownBy w' (some g)) ∧ Aside0 (Rdr w' g A c l a1 e1) ∧ Aside0 (R = fixR l d x u a1 e1))
  case atStart => exact ⟨0, 0, 1, a, e, rfl, rfl, rfl, ⟨by omega⟩, by omega, by omega, ⟨grown_refl _ _⟩, H, HR⟩
  case round =>
    obtain ⟨i, x, u, a1, e1, rfl, rfl, rfl, HD, hx, hu, HG, HC, HRR⟩ := hrel
    have hd := HD.out
    cases gk with
    | zero =>
      obtain rfl : i = 4 := by omega
      have hr := HRR.out
      unfold fixR at hr
      have y2 := HC.out.c2
      by_cases he : e1 = 0
      · have d1 : ((e1 : Int) != 0) = false := by rw [he]; rfl
        have E1 := Aside0.mk (show rr = (x, a1, e1) by rw [RR.out, hr, if_pos he])
        clear hr he hd
        go_wp2
        go_ret
        exact ⟨by rw [E1.out]; rfl, HG.out, by rw [E1.out]; exact HC.out⟩
      · have d1 : ((e1 : Int) != 0) = true := by rw [bne_iff_ne]; exact he
        have E1 := Aside0.mk (show rr = (0, a, e1) by rw [RR.out, hr, if_neg he])
        have bc := RBack_calls HC.out a AB.out.1 AB.out.2
        rw [if_neg he] at bc
        have BC := Aside0.mk bc
        clear hr he hd bc
        go_wp2_with (first
          | (go_at_call 76; refine BC.out.mono ?_; rintro e2 w2 ⟨rfl, hg, hc⟩; have HG2 := Aside0.mk hg; have HC2 := Aside0.mk hc; clear hg hc)
          | fail)
        go_ret
        exact ⟨by rw [E1.out]; rfl, grown_then HG.out HG2.out, by rw [E1.out]; exact HC2.out⟩
    | succ d =>
      have hi : i < 4 := by omega
      have hiI : (i : Int) < 4 := by omega
      have BC := Aside0.mk (RByte_calls HC.out)
      have hr := HRR.out
      unfold fixR at hr
      obtain ⟨b, hb⟩ : ∃ b, b = byteM l a1 e1 := ⟨_, rfl⟩
      have BR := (show 0 ≤ (byteM l a1 e1).1 ∧ (byteM l a1 e1).1 < 256 from byteM_range OK.out HC.out.lo)
      rw [← hb] at hr BC BR
      obtain ⟨b, ba, be⟩ := b
      simp only at hr BC BR
      have HR2 := Aside0.mk hr
      clear hb hr hd
      obtain ⟨X0, X1⟩ := hx
      obtain ⟨U0, U1⟩ := hu
      obtain ⟨B0, B1⟩ := BR
      go_wp2_with (first
        | (go_at_call 83; refine BC.out.mono ?_; rintro e2 w2 ⟨rfl, hg, hc⟩; have HG2 := Aside0.mk hg; have HC2 := Aside0.mk hc; clear hg hc)
        | fail)
      go_roundg d
      case measure => omega
      case rel => exact ⟨i + 1, _, _, ba, be, rfl, rfl, by push_cast; rfl, ⟨by have := HD.out; omega⟩, by rw [IntKind.wrap_u64]; omega, by rw [IntKind.wrap_u64]; omega, ⟨grown_then HG.out HG2.out⟩, HC2, HR2⟩
set_option maxRecDepth 100000 in
set_option maxHeartbeats 1000000 in
theorem RFixed_8 (h : Rdr w g A c l a e) : Calls Try.prog 88 #[.pointer (some ⟨g, 0, none⟩), .int .i64 8] w (RDid w g A c l (.int .u64 (fixedM 8 l a e).1) (fixedM 8 l a e).2.1 (fixedM 8 l a e).2.2) := by
  have e1 := rfixM_is 8 (by decide) l h.ok a e h.lo h.hi
  rw [show ((8 : Nat) : Int) = 8 from rfl] at e1
  rw [← e1]
  obtain ⟨rr, hrr⟩ : ∃ rr, rr = rfixM 8 l a e := ⟨_, rfl⟩
  rw [← hrr]
  unfold rfixM at hrr
  obtain ⟨R, hR⟩ : ∃ R, R = fixR l 8 0 1 a e := ⟨_, rfl⟩
  rw [← hR] at hrr
  have HR := Aside0.mk hR
  have RR := Aside0.mk hrr
  have x1 := h.c1
  have AB := Aside0.mk (And.intro h.lo h.hi)
  have H := Aside0.mk h
  have OK := Aside0.mk h.ok
  clear h e1 hR hrr
  go_enter Try.func88, Try.ntmps88
  go_wp2
  go_loopg [6, 7, 8] 8 (fun d v6 v7 v8 w' => ∃ (i : Nat) (x u a1 e1 : Int), v6 = .int .u64 x ∧ v7 = .int .u64 u ∧ v8 = .int .i64 (i : Int) ∧ Aside0 (i + d = 8) ∧ (0 ≤ x ∧ x < 18446744073709551616) ∧ (0 ≤ u ∧ u < 18446744073709551616) ∧ Aside0 (w.grownBy w' (some g)) ∧ Aside0 (Rdr w' g A c l a1 e1) ∧ Aside0 (R = fixR l d x u a1 e1))
  case atStart => exact ⟨0, 0, 1, a, e, rfl, rfl, rfl, ⟨by omega⟩, by omega, by omega, ⟨grown_refl _ _⟩, H, HR⟩
  case round =>
    obtain ⟨i, x, u, a1, e1, rfl, rfl, rfl, HD, hx, hu, HG, HC, HRR⟩ := hrel
    have hd := HD.out
    cases gk with
    | zero =>
      obtain rfl : i = 8 := by omega
      have hr := HRR.out
      unfold fixR at hr
      have y2 := HC.out.c2
      by_cases he : e1 = 0
      · have d1 : ((e1 : Int) != 0) = false := by rw [he]; rfl
        have E1 := Aside0.mk (show rr = (x, a1, e1) by rw [RR.out, hr, if_pos he])
        clear hr he hd
        go_wp2
        go_ret
        exact ⟨by rw [E1.out]; rfl, HG.out, by rw [E1.out]; exact HC.out⟩
      · have d1 : ((e1 : Int) != 0) = true := by rw [bne_iff_ne]; exact he
        have E1 := Aside0.mk (show rr = (0, a, e1) by rw [RR.out, hr, if_neg he])
        have bc := RBack_calls HC.out a AB.out.1 AB.out.2
        rw [if_neg he] at bc
        have BC := Aside0.mk bc
        clear hr he hd bc
        go_wp2_with (first
          | (go_at_call 76; refine BC.out.mono ?_; rintro e2 w2 ⟨rfl, hg, hc⟩; have HG2 := Aside0.mk hg; have HC2 := Aside0.mk hc; clear hg hc)
          | fail)
        go_ret
        exact ⟨by rw [E1.out]; rfl, grown_then HG.out HG2.out, by rw [E1.out]; exact HC2.out⟩
    | succ d =>
      have hi : i < 8 := by omega
      have hiI : (i : Int) < 8 := by omega
      have BC := Aside0.mk (RByte_calls HC.out)
      have hr := HRR.out
      unfold fixR at hr
      obtain ⟨b, hb⟩ : ∃ b, b = byteM l a1 e1 := ⟨_, rfl⟩
      have BR := (show 0 ≤ (byteM l a1 e1).1 ∧ (byteM l a1 e1).1 < 256 from byteM_range OK.out HC.out.lo)
      rw [← hb] at hr BC BR
      obtain ⟨b, ba, be⟩ := b
      simp only at hr BC BR
      have HR2 := Aside0.mk hr
      clear hb hr hd
      obtain ⟨X0, X1⟩ := hx
      obtain ⟨U0, U1⟩ := hu
      obtain ⟨B0, B1⟩ := BR
      go_wp2_with (first
        | (go_at_call 83; refine BC.out.mono ?_; rintro e2 w2 ⟨rfl, hg, hc⟩; have HG2 := Aside0.mk hg; have HC2 := Aside0.mk hc; clear hg hc)
        | fail)
      go_roundg d
      case measure => omega
      case rel => exact ⟨i + 1, _, _, ba, be, rfl, rfl, by push_cast; rfl, ⟨by have := HD.out; omega⟩, by rw [IntKind.wrap_u64]; omega, by rw [IntKind.wrap_u64]; omega, ⟨grown_then HG.out HG2.out⟩, HC2, HR2⟩
theorem RFixed_calls (h : Rdr w g A c l a e) (n : Int) : Calls Try.prog 88 #[.pointer (some ⟨g, 0, none⟩), .int .i64 n] w (RDid w g A c l (.int .u64 (fixedM n l a e).1) (fixedM n l a e).2.1 (fixedM n l a e).2.2) := by
  by_cases h4 : n = 4
  · subst h4; exact RFixed_4 h
  by_cases h8 : n = 8
  · subst h8; exact RFixed_8 h
  · exact RFixed_else h n ⟨h4, h8⟩
end
end Go.Proofs.Ytjhdnlgbboboiaa.Scan

/- The reader's Among, Value, Results. -/
namespace Go.Proofs.Ytjhdnlgbboboiaa.Scan
open Go.Proofs.Ytjhdnlgbboboiaa.Leb Go.Proofs.Ytjhdnlgbboboiaa.Mem Go.RowKit Go.Proofs.YtjhdnlgbboboiaaW.PrintWords Go.Proofs.YtjhdnlgbboboiaaW.PrintLast Go.Proofs.YtjhdnlgbboboiaaW.PrintMore Go.Proofs.Ytjhdnlgbboboiaa.Base
set_option linter.unusedVariables false
set_option linter.unusedSimpArgs false
theorem amongM_good (er : Int) (L l : List Int) (a e : Int) (hb : (byteM l a e).2.2 = 0) (hm : (byteM l a e).1 ∈ L) : amongM er L l a e = byteM l a e := by
  have he : e = 0 := by
    by_cases he : e = 0
    · exact he
    · rw [byteM_off l a e he] at hb; exact hb
  subst he
  unfold amongM readsM rM amongB
  simp only [if_pos hm, if_true, if_pos hb]
theorem amongM_other (er : Int) (hn : er ≠ 0) (L l : List Int) (a e : Int) (hb : (byteM l a e).2.2 = 0) (hm : (byteM l a e).1 ∉ L) : amongM er L l a e = (0, a, er) := by
  have he : e = 0 := by
    by_cases he : e = 0
    · exact he
    · rw [byteM_off l a e he] at hb; exact hb
  subst he
  unfold amongM readsM rM amongB fl
  simp only [if_neg hm, if_true, if_pos hb, if_neg hn]
theorem amongM_bad (er : Int) (L l : List Int) (a e : Int) (hb : (byteM l a e).2.2 ≠ 0) : amongM er L l a e = (0, a, (byteM l a e).2.2) := by
  by_cases he : e = 0
  · subst he
    unfold amongM readsM rM amongB fl
    by_cases hm : (byteM l a 0).1 ∈ L
    · simp only [if_pos hm, if_true, if_neg hb]
    · simp only [if_neg hm, if_true, if_neg hb]
  · rw [byteM_off l a e he]
    unfold amongM readsM
    rw [if_neg he]
section
variable {w w2 W W' : World} {g c : Nat} {A : Option Addr} {l : List Int} {a e a1 e1 : Int}
set_option maxRecDepth 100000 in
set_option maxHeartbeats 1000000 in
theorem RAmong_calls (h : Rdr w g A c l a e) (er : Int) (hn : er ≠ 0) (AL : Option Addr) (cL : Nat) (L : List Int) (hL : L.length ≤ 1000) (hF : Kd.F ku w (fun k => k ≠ g) AL L.length L) :
    Calls Try.prog 74 #[.pointer (some ⟨g, 0, none⟩), .slice AL L.length cL, .int .i64 er] w (RDid w g A c l (.int .u8 (amongM er L l a e).1) (amongM er L l a e).2.1 (amongM er L l a e).2.2) := by
  have hu := Try.underlying22
  have BC := Aside0.mk (RByte_calls h)
  have G1 := Aside0.mk (amongM_good er L l a e)
  have G2 := Aside0.mk (amongM_other er hn L l a e)
  have G3 := Aside0.mk (amongM_bad er L l a e)
  obtain ⟨rr, hrr⟩ : ∃ rr, rr = amongM er L l a e := ⟨_, rfl⟩
  rw [← hrr] at G1 G2 G3 ⊢
  obtain ⟨u, hu_⟩ : ∃ u, u = byteM l a e := ⟨_, rfl⟩
  rw [← hu_] at BC G1 G2 G3
  obtain ⟨b, ba, be⟩ := u
  simp only at BC G1 G2 G3
  have x1 := h.c1
  have AB := Aside0.mk (And.intro h.lo h.hi)
  have CB := Aside0.mk (fun (W : World) (hW : w.grownBy W (some g)) => (show Kd.F ku W (fun k => k ≠ g) AL L.length L from Kd.F_step hF fun k hk hlt => hW.block k hlt (fun e => hk (Option.some.inj e))))
  have HN := Aside0.mk hn
  have HLL := Aside0.mk hL
  clear h hF hn hL hu_ hrr
  go_enter Try.func74, Try.ntmps74
  go_wp2_with (first
    | (go_at_call 83; refine BC.out.mono ?_; rintro e1 w1 ⟨rfl, hg, hc⟩; have HG := Aside0.mk hg; have HC := Aside0.mk hc; have HF := Aside0.mk (CB.out w1 hg); clear hg hc)
    | fail)
  go_loopg [9] L.length (fun d v9 w' => ∃ i : Nat, v9 = .int .i64 (i : Int) ∧ Aside0 (i + d = L.length ∧ ∀ j, j < i → be = 0 → rd L (j : Int) ≠ b) ∧ w' = w1)
  case atStart => exact ⟨0, rfl, ⟨by omega, fun j hj => by omega⟩, rfl⟩
  case round =>
    obtain ⟨i, rfl, HD, rfl⟩ := hrel
    have hd := HD.out.1
    have hlen := HLL.out
    cases gk with
    | zero =>
      have e1 : decide (i < L.length) = false := decide_eq_false (by omega)
      have RR := Aside0.mk (show rr = (0, a, fl er be) by
        by_cases hbe : be = 0
        · rw [G2.out hbe (not_mem_take (fun j hj => HD.out.2 j hj hbe) (by omega))]
          unfold fl; rw [if_pos hbe]
        · rw [G3.out hbe]
          unfold fl; rw [if_neg hbe])
      have FN := Aside0.mk (show fl er be ≠ 0 by
        unfold fl
        by_cases hbe : be = 0
        · rw [if_pos hbe]; exact HN.out
        · rw [if_neg hbe]; exact hbe)
      have FL := Aside0.mk (RFail_calls HC.out er)
      have BK := Aside0.mk (fun (W : World) (hC : Rdr W g A c l ba (fl er be)) => RBack_calls hC a AB.out.1 AB.out.2)
      rw [if_neg FN.out] at BK
      clear hd hlen
      go_wp2_with (first
        | (go_at_call 61; refine FL.out.mono ?_; rintro e1 w5 ⟨rfl, hg, hc⟩; have HG5 := Aside0.mk (grown_then HG.out hg); have BK2 := Aside0.mk (BK.out w5 hc); clear hg hc)
        | (go_at_call 76; refine BK2.out.mono ?_; rintro e1 w6 ⟨rfl, hg, hc⟩; have HG6 := Aside0.mk (grown_then HG5.out hg); have HC6 := Aside0.mk hc; clear hg hc)
        | fail)
      go_ret
      exact ⟨by rw [RR.out]; rfl, HG6.out, by rw [RR.out]; exact HC6.out⟩
    | succ d =>
      have hi : i < L.length := by omega
      have e1 : decide (i < L.length) = true := decide_eq_true hi
      have hiI : (i : Int) ≤ 1000 := by omega
      have hw1 : wrap64 ((i : Int) + 1) = (i : Int) + 1 := by unfold wrap64; omega
      have y2 := HC.out.c2
      obtain ⟨ad, eA, x0⟩ := ReadsOf.at_ (Kd.reads_of_C (enc := Value.int .u8) (d := 0) (h1 := fun _ => rfl) (Kd.F_now HF.out)) (i : Int) (by omega) (by omega)
      subst eA
      rw [Int.toNat_natCast] at x0
      obtain ⟨X, hX⟩ : ∃ X, X = rdOf 0 L (i : Int) := ⟨_, rfl⟩
      rw [← hX] at x0
      have HX := Aside0.mk (show rd L (i : Int) = X from hX.symm)
      clear hX hd hlen
      by_cases hxb : X = b
      · have d1 : ((X : Int) == b) = true := beq_iff_eq.2 hxb
        by_cases hbe : be = 0
        · have RR := Aside0.mk (show rr = (b, ba, be) by
            refine G1.out hbe ?_
            rw [← hxb, ← HX.out]
            simp [rd, List.getD_eq_getElem?_getD, List.getElem?_eq_getElem hi])
          have d2 : ((be : Int) == 0) = true := beq_iff_eq.2 hbe
          clear hxb hbe
          go_wp2
          go_ret
          exact ⟨by rw [RR.out]; rfl, HG.out, by rw [RR.out]; exact HC.out⟩
        · have d2 : ((be : Int) == 0) = false := beq_eq_false_iff_ne.2 hbe
          have HBE := Aside0.mk hbe
          clear hxb hbe
          go_wp2
          go_roundg d
          case measure => omega
          case rel => exact ⟨i + 1, by push_cast; rfl, ⟨by have := HD.out; omega, fun j hj hbe => absurd hbe HBE.out⟩, rfl⟩
      · have d1 : ((X : Int) == b) = false := beq_eq_false_iff_ne.2 hxb
        have HXB := Aside0.mk hxb
        clear hxb
        go_wp2
        go_roundg d
        case measure => omega
        case rel =>
          refine ⟨i + 1, by push_cast; rfl, ⟨by have := HD.out.1; omega, fun j hj hbe => ?_⟩, rfl⟩
          by_cases hji : j = i
          · subst hji
            rw [HX.out]
            exact HXB.out
          · exact HD.out.2 j (by omega) hbe
theorem ramong_laid (h : Rdr w g A c l a e) (er : Int) (hn : er ≠ 0) (L : List Int) (hL : L.length ≤ 1000) (T : TypeId) :
    Calls Try.prog 74 #[.pointer (some ⟨g, 0, none⟩), .slice (some ⟨w.heap.size, 0, none⟩) L.length L.length, .int .i64 er] (w.alloc (.cells (L.map fun x => Value.int .u8 x).toArray T))
      (fun en w' => RDid w g A c l (.int .u8 (amongM er L l a e).1) (amongM er L l a e).2.1 (amongM er L l a e).2.2 en w') := by
  have hb := below_alloc (Below.refl w.heap.size w) (.cells (L.map fun x => Value.int .u8 x).toArray T)
  refine (RAmong_calls (h.below hb) er hn _ L.length L hL (Kd.F_mono (row_new (heap_alloc_new w _) hL) fun k hk => by rintro rfl; have := h.lt; omega)).mono ?_
  rintro en w' ⟨rfl, hg, hc⟩
  exact ⟨rfl, grown_then (grown_of_below hb _) hg, hc⟩
set_option maxRecDepth 100000 in
theorem RValue_calls (h : Rdr w g A c l a e) : Calls Try.prog 79 #[.pointer (some ⟨g, 0, none⟩)] w (RDid w g A c l (.int .u8 (valueM l a e).1) (valueM l a e).2.1 (valueM l a e).2.2) := by
  have hu := Try.underlying22
  have AC := Aside0.mk (ramong_laid h 106 (by decide) [127, 126, 125, 124] (by decide) 5)
  unfold valueM
  clear h
  go_enter Try.func79, Try.ntmps79
  go_wp2_with (first | (go_at_call 74; refine AC.out.mono ?_; rintro e1 w1 ⟨rfl, hg, hc⟩; have HG := Aside0.mk hg; have HC := Aside0.mk hc; clear hg hc) | fail)
  go_ret
  exact ⟨rfl, HG.out, HC.out⟩
set_option maxRecDepth 100000 in
theorem RResults_calls (h : Rdr w g A c l a e) : Calls Try.prog 96 #[.pointer (some ⟨g, 0, none⟩)] w (RDid w g A c l (.int .u8 (resultsM l a e).1) (resultsM l a e).2.1 (resultsM l a e).2.2) := by
  have hu := Try.underlying22
  have AC := Aside0.mk (ramong_laid h 106 (by decide) [127, 126, 125, 124, 64] (by decide) 5)
  unfold resultsM
  obtain ⟨u, hu_⟩ : ∃ u, u = amongM 106 [127, 126, 125, 124, 64] l a e := ⟨_, rfl⟩
  rw [← hu_] at AC ⊢
  obtain ⟨b, ba, be⟩ := u
  clear h hu_
  simp only at AC ⊢
  by_cases hb : b = 64
  · have d1 : ((b : Int) == 64) = true := beq_iff_eq.2 hb
    rw [if_pos hb]
    clear hb
    go_enter Try.func96, Try.ntmps96
    go_wp2_with (first | (go_at_call 74; refine AC.out.mono ?_; rintro e1 w1 ⟨rfl, hg, hc⟩; have HG := Aside0.mk hg; have HC := Aside0.mk hc; clear hg hc) | fail)
    go_ret
    exact ⟨rfl, HG.out, HC.out⟩
  · have d1 : ((b : Int) == 64) = false := beq_eq_false_iff_ne.2 hb
    rw [if_neg hb]
    clear hb
    go_enter Try.func96, Try.ntmps96
    go_wp2_with (first | (go_at_call 74; refine AC.out.mono ?_; rintro e1 w1 ⟨rfl, hg, hc⟩; have HG := Aside0.mk hg; have HC := Aside0.mk hc; clear hg hc) | fail)
    go_ret
    exact ⟨rfl, HG.out, HC.out⟩
end
end Go.Proofs.Ytjhdnlgbboboiaa.Scan

/- The reader's numbers. -/
namespace Go.Proofs.Ytjhdnlgbboboiaa.Scan
open Go.Proofs.Ytjhdnlgbboboiaa.Leb Go.Proofs.Ytjhdnlgbboboiaa.Mem Go.RowKit Go.Proofs.YtjhdnlgbboboiaaW.PrintWords Go.Proofs.YtjhdnlgbboboiaaW.PrintLast Go.Proofs.YtjhdnlgbboboiaaW.PrintMore Go.Proofs.Ytjhdnlgbboboiaa.Base Go.Proofs.Ytjhdnlgbboboiaa.PScanReads
set_option linter.unusedVariables false
set_option linter.unusedSimpArgs false
theorem refU_lt (l : List Int) (hok : okB l) : ∀ (a : Int) (k : Nat), 1 ≤ k → (refU l a (k : Int)).2.2 = 0 → (refU l a (k : Int)).1 < 2 ^ k := by
  induction l with
  | nil => intro a k hk h; simp [refU] at h
  | cons x xs ih =>
    intro a k hk h
    have hx := hok x (by simp)
    have hxs : okB xs := fun y hy => hok y (by simp [hy])
    unfold refU at h ⊢
    by_cases c1 : x < 128
    · rw [if_pos c1] at h ⊢
      by_cases c2 : (k : Int) < 7 ∧ two7 (k : Int) ≤ x
      · rw [if_pos c2] at h; simp at h
      · rw [if_neg c2]
        simp only
        by_cases c3 : k < 7
        · have hk6 : k = 1 ∨ k = 2 ∨ k = 3 ∨ k = 4 ∨ k = 5 ∨ k = 6 := by omega
          rcases hk6 with rfl | rfl | rfl | rfl | rfl | rfl <;> simp [two7] at c2 ⊢ <;> omega
        · have : (2 : Int) ^ 7 ≤ 2 ^ k := by
            have : 2 ^ 7 ≤ 2 ^ k := Nat.pow_le_pow_right (by decide) (by omega)
            exact_mod_cast this
          omega
    · rw [if_neg c1] at h ⊢
      by_cases c2 : (k : Int) ≤ 7
      · rw [if_pos c2] at h; simp at h
      · rw [if_neg c2] at h ⊢
        obtain ⟨m, rfl⟩ : ∃ m, k = m + 7 := ⟨k - 7, by omega⟩
        rw [show ((m + 7 : Nat) : Int) - 7 = (m : Int) by push_cast; omega] at h ⊢
        simp only at h ⊢
        by_cases c3 : (refU xs (a + 1) (m : Int)).2.2 = 0
        · rw [if_pos c3]
          have := ih hxs (a + 1) m (by omega) c3
          simp only
          rw [Int.pow_add]
          omega
        · rw [if_neg c3] at h
          exact absurd h c3
theorem uM_ref (l : List Int) (a b : Int) (hok : okB l) (a0 : 0 ≤ a) (a1 : a ≤ (l.length : Int)) (b0 : 1 ≤ b) (b1 : b ≤ 64) : uM l a b = refU (l.drop a.toNat) a b := by
  obtain ⟨i, rfl⟩ := Int.eq_ofNat_of_zero_le a0
  unfold uM
  rw [ScanL.scanF_in _ _ _ _ (by omega)]
  exact ScanL.uint_is l i b hok b0 b1
theorem sM_ref (l : List Int) (a b : Int) (hok : okB l) (a0 : 0 ≤ a) (a1 : a ≤ (l.length : Int)) (b0 : 1 ≤ b) (b1 : b ≤ 64) : sM l a b = ((refS (l.drop a.toNat) a b).1 % 18446744073709551616, (refS (l.drop a.toNat) a b).2.1, (refS (l.drop a.toNat) a b).2.2) := by
  obtain ⟨i, rfl⟩ := Int.eq_ofNat_of_zero_le a0
  unfold sM
  rw [ScanL.scanF_in _ _ _ _ (by omega)]
  exact ScanL.sint_is l i b hok b0 b1
theorem sM_nonneg (l : List Int) (a b : Int) (hok : okB l) (a0 : 0 ≤ a) (a1 : a ≤ (l.length : Int)) (b0 : 1 ≤ b) (b1 : b ≤ 64) : 0 ≤ (sM l a b).1 := by
  rw [sM_ref l a b hok a0 a1 b0 b1]
  exact Int.emod_nonneg _ (by decide)
theorem uM_lt (l : List Int) (a : Int) (hok : okB l) (a0 : 0 ≤ a) (a1 : a ≤ (l.length : Int)) (h : (uM l a 32).2.2 = 0) : (uM l a 32).1 % 4294967296 = (uM l a 32).1 := by
  have h0 := (uM_ref l a 32 hok a0 a1 (by decide) (by decide))
  rw [h0] at h ⊢
  have hd : okB (l.drop a.toNat) := fun y hy => hok y (List.mem_of_mem_drop hy)
  have h1 := refU_lt _ hd a 32 (by decide) h
  have h2 : 0 ≤ (refU (l.drop a.toNat) a 32).1 := by
    have := scanU (l.drop a.toNat) a 0 0 32 hd (by omega) (P7_pos 0) (by omega) (by omega) (by omega)
    exact (this.2 h).1
  have h3 : (2 : Int) ^ 32 = 4294967296 := by decide
  have h4 : (refU (l.drop a.toNat) a 32).1 < 2 ^ 32 := h1
  omega
theorem refUint_calls (W : World) (A : Option Addr) (c : Nat) (l : List Int) (a b : Int) (hF : Kd.C ku W A l.length l) (hc : l.length ≤ c) (hok : okB l) (hl : l.length ≤ 6000) (a0 : 0 ≤ a) (a1 : a ≤ (l.length : Int)) (b0 : 1 ≤ b) (b1 : b ≤ 64) :
    Calls Try.prog 26 #[.slice A l.length c, .int .i64 a, .int .i64 b] W fun e w' => e = .returned (.tuple #[.int .u64 (uM l a b).1, .int .i64 (uM l a b).2.1, .int .i64 (uM l a b).2.2]) ∧ Drawn0 W w' := by
  have h := uM_ref l a b hok a0 a1 b0 b1
  obtain ⟨i, rfl⟩ := Int.eq_ofNat_of_zero_le a0
  have hf := (ScanL.refU_f l hok hl (l.length - i) (l.length - i + 9) i b rfl (Nat.le_refl _) b0 b1).1
  rw [show ((i : Int)).toNat = i from rfl] at h
  rw [← h] at hf
  exact trunnionref15_Uint.calls _ A c l (i : Int) b _ _ _ W hF hc hf
theorem refSint_calls (W : World) (A : Option Addr) (c : Nat) (l : List Int) (a b : Int) (hF : Kd.C ku W A l.length l) (hc : l.length ≤ c) (hok : okB l) (hl : l.length ≤ 6000) (a0 : 0 ≤ a) (a1 : a ≤ (l.length : Int)) (b0 : 1 ≤ b) (b1 : b ≤ 64) :
    Calls Try.prog 27 #[.slice A l.length c, .int .i64 a, .int .i64 b] W fun e w' => e = .returned (.tuple #[.int .u64 (sM l a b).1, .int .i64 (sM l a b).2.1, .int .i64 (sM l a b).2.2]) ∧ Drawn0 W w' := by
  have h := sM_ref l a b hok a0 a1 b0 b1
  obtain ⟨i, rfl⟩ := Int.eq_ofNat_of_zero_le a0
  have hf := ScanL.refS_f l hok hl (l.length - i) (3 * (l.length - i) + 12) i b rfl (Nat.le_refl _) b0 b1
  rw [show ((i : Int)).toNat = i from rfl] at h
  rw [← h] at hf
  exact trunnionref15_Sint.calls _ A c l (i : Int) b _ _ _ W hF hc hf
theorem u32M_zero (l : List Int) (a : Int) (hok : okB l) (a0 : 0 ≤ a) (a1 : a ≤ (l.length : Int)) : ((uM l a 32).2.2 = 0 → u32M l a 0 = ((uM l a 32).1, (uM l a 32).2.1, 0)) ∧ ((uM l a 32).2.2 ≠ 0 → u32M l a 0 = (0, a, (uM l a 32).2.2)) := by
  unfold u32M readsM rM u32B
  refine ⟨fun h => ?_, fun h => ?_⟩
  · rw [if_pos rfl]
    simp only [if_pos h, if_true, uM_lt l a hok a0 a1 h]
  · rw [if_pos rfl]
    simp only [if_neg h]
theorem s32M_zero (l : List Int) (a : Int) (hok : okB l) (a0 : 0 ≤ a) (a1 : a ≤ (l.length : Int)) : ((sM l a 32).2.2 = 0 → s32M l a 0 = ((sM l a 32).1 % 4294967296, (sM l a 32).2.1, 0)) ∧ ((sM l a 32).2.2 ≠ 0 → s32M l a 0 = (0, a, (sM l a 32).2.2)) := by
  unfold s32M readsM rM s32B
  refine ⟨fun h => ?_, fun h => ?_⟩
  · rw [if_pos rfl]
    simp only [if_pos h, if_true]
  · rw [if_pos rfl]
    simp only [if_neg h]
theorem s64M_zero (l : List Int) (a : Int) (hok : okB l) (a0 : 0 ≤ a) (a1 : a ≤ (l.length : Int)) : ((sM l a 64).2.2 = 0 → s64M l a 0 = ((sM l a 64).1, (sM l a 64).2.1, 0)) ∧ ((sM l a 64).2.2 ≠ 0 → s64M l a 0 = (0, a, (sM l a 64).2.2)) := by
  unfold s64M readsM rM s64B
  refine ⟨fun h => ?_, fun h => ?_⟩
  · rw [if_pos rfl]
    simp only [if_pos h, if_true]
  · rw [if_pos rfl]
    simp only [if_neg h]
section
variable {w w2 W W' : World} {g c : Nat} {A : Option Addr} {l : List Int} {a e a1 e1 : Int}
set_option maxRecDepth 100000 in
set_option maxHeartbeats 1000000 in
theorem RUint_calls (h : Rdr w g A c l a e) (h6 : l.length ≤ 6000) : Calls Try.prog 75 #[.pointer (some ⟨g, 0, none⟩), .int .i64 32] w (RDid w g A c l (.int .u64 (u32M l a e).1) (u32M l a e).2.1 (u32M l a e).2.2) := by
  have H := Aside0.mk h
  have x2 := h.c2
  have x1 := h.c1
  have x0 := h.c0
  by_cases he : e = 0
  · subst he
    have UC := Aside0.mk (fun (W : World) (hW : Below w.heap.size w W) => refUint_calls W A c l a 32 (Kd.F_now (h.below hW).bytes) h.cap h.ok h6 h.lo h.hi (by decide) (by decide))
    have HC := Aside0.mk (fun (W : World) (hW : Below w.heap.size w W) => h.below hW)
    have AT := Aside0.mk (uM_at l a 32)
    have MU := Aside0.mk (u32M_zero l a h.ok h.lo h.hi)
    obtain ⟨r, hr⟩ : ∃ r, r = uM l a 32 := ⟨_, rfl⟩
    obtain ⟨rr, hrr⟩ : ∃ rr, rr = u32M l a 0 := ⟨_, rfl⟩
    rw [← hrr]
    rw [← hr, ← hrr] at MU
    rw [← hr] at UC AT
    clear hr hrr h
    obtain ⟨n, nx, er⟩ := r
    simp only at UC AT MU
    by_cases hr : er = 0
    · subst hr
      have M1 := Aside0.mk (MU.out.1 rfl)
      have AT1 := Aside0.mk (AT.out rfl)
      clear MU AT
      go_enter Try.func75, Try.ntmps75
      go_wp2
      go_region_with (go_at_call 26; refine (UC.out _ (below_drew (Below.refl _ _))).mono ?_; rintro e1 w1 ⟨rfl, hb⟩; have HW := Aside0.mk (below_then (below_drew (Below.refl w.heap.size w)) (Nat.le_refl _) hb.below); have y1 := (HC.out w1 HW.out).c1; have yf := (HC.out w1 HW.out).f 1; clear hb)
      all_goals
        go_wp2
        go_ret
        exact ⟨by rw [M1.out]; rfl, grown_then (grown_of_below HW.out (some g)) (grown_set w1 g 1 (.int .i64 nx)), by rw [M1.out]; exact (HC.out w1 HW.out).set_at nx (by have := AT1.out; omega) AT1.out.2.2⟩
    · have d1 : ((er : Int) != 0) = true := by rw [bne_iff_ne]; exact hr
      have M1 := Aside0.mk (MU.out.2 hr)
      clear MU AT hr
      go_enter Try.func75, Try.ntmps75
      go_wp2
      go_region_with (go_at_call 26; refine (UC.out _ (below_drew (Below.refl _ _))).mono ?_; rintro e1 w1 ⟨rfl, hb⟩; have HW := Aside0.mk (below_then (below_drew (Below.refl w.heap.size w)) (Nat.le_refl _) hb.below); have y1 := (HC.out w1 HW.out).c2; have yf := (HC.out w1 HW.out).f 2; clear hb)
      all_goals
        go_wp2
        go_ret
        exact ⟨by rw [M1.out]; rfl, grown_then (grown_of_below HW.out (some g)) (grown_set w1 g 2 (.int .i64 er)), by rw [M1.out]; exact (HC.out w1 HW.out).set_e er⟩
  · have e1 : u32M l a e = (0, a, e) := by unfold u32M readsM; rw [if_neg he]
    rw [e1]
    have d1 : ((e : Int) != 0) = true := by rw [bne_iff_ne]; exact he
    clear h he e1
    go_enter Try.func75, Try.ntmps75
    go_wp2
    go_ret
    exact ⟨rfl, grown_refl _ _, H.out⟩
set_option maxRecDepth 100000 in
set_option maxHeartbeats 1000000 in
theorem RSint32_calls (h : Rdr w g A c l a e) (h6 : l.length ≤ 6000) : Calls Try.prog 85 #[.pointer (some ⟨g, 0, none⟩), .int .i64 32] w (RDid w g A c l (.int .u64 (s32M l a e).1) (s32M l a e).2.1 (s32M l a e).2.2) := by
  have H := Aside0.mk h
  have x2 := h.c2
  have x1 := h.c1
  have x0 := h.c0
  by_cases he : e = 0
  · subst he
    have UC := Aside0.mk (fun (W : World) (hW : Below w.heap.size w W) => refSint_calls W A c l a 32 (Kd.F_now (h.below hW).bytes) h.cap h.ok h6 h.lo h.hi (by decide) (by decide))
    have HC := Aside0.mk (fun (W : World) (hW : Below w.heap.size w W) => h.below hW)
    have AT := Aside0.mk (sM_at l a 32)
    have NN := Aside0.mk (sM_nonneg l a 32 h.ok h.lo h.hi (by decide) (by decide))
    have MU := Aside0.mk (s32M_zero l a h.ok h.lo h.hi)
    obtain ⟨r, hr⟩ : ∃ r, r = sM l a 32 := ⟨_, rfl⟩
    obtain ⟨rr, hrr⟩ : ∃ rr, rr = s32M l a 0 := ⟨_, rfl⟩
    rw [← hrr]
    rw [← hr, ← hrr] at MU
    rw [← hr] at UC AT NN
    clear hr hrr h
    obtain ⟨n, nx, er⟩ := r
    simp only at UC AT MU NN
    by_cases hr : er = 0
    · subst hr
      have M1 := Aside0.mk (MU.out.1 rfl)
      have AT1 := Aside0.mk (AT.out rfl)
      clear MU AT
      go_enter Try.func85, Try.ntmps85
      go_wp2
      go_region_with (go_at_call 27; refine (UC.out _ (below_drew (Below.refl _ _))).mono ?_; rintro e1 w1 ⟨rfl, hb⟩; have HW := Aside0.mk (below_then (below_drew (Below.refl w.heap.size w)) (Nat.le_refl _) hb.below); have y1 := (HC.out w1 HW.out).c1; have yf := (HC.out w1 HW.out).f 1; clear hb)
      all_goals
        go_wp2
        go_ret
        exact ⟨by rw [M1.out]; show Ending.returned (.int .u64 (n.tmod 4294967296)) = _; rw [Int.tmod_eq_emod_of_nonneg NN.out], grown_then (grown_of_below HW.out (some g)) (grown_set w1 g 1 (.int .i64 nx)), by rw [M1.out]; exact (HC.out w1 HW.out).set_at nx (by have := AT1.out; omega) AT1.out.2.2⟩
    · have d1 : ((er : Int) != 0) = true := by rw [bne_iff_ne]; exact hr
      have M1 := Aside0.mk (MU.out.2 hr)
      clear MU AT hr
      go_enter Try.func85, Try.ntmps85
      go_wp2
      go_region_with (go_at_call 27; refine (UC.out _ (below_drew (Below.refl _ _))).mono ?_; rintro e1 w1 ⟨rfl, hb⟩; have HW := Aside0.mk (below_then (below_drew (Below.refl w.heap.size w)) (Nat.le_refl _) hb.below); have y1 := (HC.out w1 HW.out).c2; have yf := (HC.out w1 HW.out).f 2; clear hb)
      all_goals
        go_wp2
        go_ret
        exact ⟨by rw [M1.out]; rfl, grown_then (grown_of_below HW.out (some g)) (grown_set w1 g 2 (.int .i64 er)), by rw [M1.out]; exact (HC.out w1 HW.out).set_e er⟩
  · have e1 : s32M l a e = (0, a, e) := by unfold s32M readsM; rw [if_neg he]
    rw [e1]
    have d1 : ((e : Int) != 0) = true := by rw [bne_iff_ne]; exact he
    clear h he e1
    go_enter Try.func85, Try.ntmps85
    go_wp2
    go_ret
    exact ⟨rfl, grown_refl _ _, H.out⟩
set_option maxRecDepth 100000 in
set_option maxHeartbeats 1000000 in
theorem RSint64_calls (h : Rdr w g A c l a e) (h6 : l.length ≤ 6000) : Calls Try.prog 85 #[.pointer (some ⟨g, 0, none⟩), .int .i64 64] w (RDid w g A c l (.int .u64 (s64M l a e).1) (s64M l a e).2.1 (s64M l a e).2.2) := by
  have H := Aside0.mk h
  have x2 := h.c2
  have x1 := h.c1
  have x0 := h.c0
  by_cases he : e = 0
  · subst he
    have UC := Aside0.mk (fun (W : World) (hW : Below w.heap.size w W) => refSint_calls W A c l a 64 (Kd.F_now (h.below hW).bytes) h.cap h.ok h6 h.lo h.hi (by decide) (by decide))
    have HC := Aside0.mk (fun (W : World) (hW : Below w.heap.size w W) => h.below hW)
    have AT := Aside0.mk (sM_at l a 64)
    have MU := Aside0.mk (s64M_zero l a h.ok h.lo h.hi)
    obtain ⟨r, hr⟩ : ∃ r, r = sM l a 64 := ⟨_, rfl⟩
    obtain ⟨rr, hrr⟩ : ∃ rr, rr = s64M l a 0 := ⟨_, rfl⟩
    rw [← hrr]
    rw [← hr, ← hrr] at MU
    rw [← hr] at UC AT
    clear hr hrr h
    obtain ⟨n, nx, er⟩ := r
    simp only at UC AT MU
    by_cases hr : er = 0
    · subst hr
      have M1 := Aside0.mk (MU.out.1 rfl)
      have AT1 := Aside0.mk (AT.out rfl)
      clear MU AT
      go_enter Try.func85, Try.ntmps85
      go_wp2
      go_region_with (go_at_call 27; refine (UC.out _ (below_drew (Below.refl _ _))).mono ?_; rintro e1 w1 ⟨rfl, hb⟩; have HW := Aside0.mk (below_then (below_drew (Below.refl w.heap.size w)) (Nat.le_refl _) hb.below); have y1 := (HC.out w1 HW.out).c1; have yf := (HC.out w1 HW.out).f 1; clear hb)
      all_goals
        go_wp2
        go_ret
        exact ⟨by rw [M1.out]; rfl, grown_then (grown_of_below HW.out (some g)) (grown_set w1 g 1 (.int .i64 nx)), by rw [M1.out]; exact (HC.out w1 HW.out).set_at nx (by have := AT1.out; omega) AT1.out.2.2⟩
    · have d1 : ((er : Int) != 0) = true := by rw [bne_iff_ne]; exact hr
      have M1 := Aside0.mk (MU.out.2 hr)
      clear MU AT hr
      go_enter Try.func85, Try.ntmps85
      go_wp2
      go_region_with (go_at_call 27; refine (UC.out _ (below_drew (Below.refl _ _))).mono ?_; rintro e1 w1 ⟨rfl, hb⟩; have HW := Aside0.mk (below_then (below_drew (Below.refl w.heap.size w)) (Nat.le_refl _) hb.below); have y1 := (HC.out w1 HW.out).c2; have yf := (HC.out w1 HW.out).f 2; clear hb)
      all_goals
        go_wp2
        go_ret
        exact ⟨by rw [M1.out]; rfl, grown_then (grown_of_below HW.out (some g)) (grown_set w1 g 2 (.int .i64 er)), by rw [M1.out]; exact (HC.out w1 HW.out).set_e er⟩
  · have e1 : s64M l a e = (0, a, e) := by unfold s64M readsM; rw [if_neg he]
    rw [e1]
    have d1 : ((e : Int) != 0) = true := by rw [bne_iff_ne]; exact he
    clear h he e1
    go_enter Try.func85, Try.ntmps85
    go_wp2
    go_ret
    exact ⟨rfl, grown_refl _ _, H.out⟩
end
end Go.Proofs.Ytjhdnlgbboboiaa.Scan

/- The reader's Name, Count. -/
namespace Go.Proofs.Ytjhdnlgbboboiaa.Scan
open Go.Proofs.Ytjhdnlgbboboiaa.Leb Go.Proofs.Ytjhdnlgbboboiaa.Mem Go.RowKit Go.Proofs.YtjhdnlgbboboiaaW.PrintWords Go.Proofs.YtjhdnlgbboboiaaW.PrintLast Go.Proofs.YtjhdnlgbboboiaaW.PrintMore Go.Proofs.Ytjhdnlgbboboiaa.Base Go.Proofs.Ytjhdnlgbboboiaa.PScanReads
set_option linter.unusedVariables false
set_option linter.unusedSimpArgs false
/-- How many characters, as the document counts. -/
def cntR (bs : List Int) : Int := match ScanU.uCnt bs.length bs with | some k => k | none => -1
theorem V_is (bs : List Int) (hok : okB bs) (hl : bs.length ≤ 1000000) : V bs = (ScanU.uCnt bs.length bs).isSome := by
  obtain ⟨q, h1, h2⟩ := ScanU.count_tell bs hok hl bs.length 0 0 (by omega) (by omega) (by omega)
  have hs : (strOfNums bs).size = bs.length := strOfNums_size bs
  unfold V Go.Proofs.Ytjhdnlgbboboiaa.Utf.countT
  rw [hs, h1, List.drop_zero]
theorem cntR_V (bs : List Int) (hok : okB bs) (hl : bs.length ≤ 1000000) : (cntR bs < 0 ↔ V bs = false) ∧ -1 ≤ cntR bs ∧ cntR bs ≤ 1000000 := by
  rw [V_is bs hok hl]
  unfold cntR
  cases h : ScanU.uCnt bs.length bs with
  | none => simp
  | some k =>
    have := ScanU.uCnt_range bs.length bs k h
    simp
    omega
theorem refCount_calls (W : World) (A : Option Addr) (c : Nat) (l : List Int) (hF : Kd.C ku W A l.length l) (hc : l.length ≤ c) (hok : okB l) (hl : l.length ≤ 6000) :
    Calls Try.prog 19 #[.slice A l.length c] W fun e w' => e = .returned (.int .i64 (cntR l)) ∧ Below W.heap.size W w' := by
  have h := ScanU.count_ref l hok hl l.length 0 0 (by omega) (by omega) (by omega)
  obtain ⟨k, hk⟩ := h.rounds
  have hk2 : trunnionref16_Count.f k l = some (cntR l) := by
    show trunnionref16_Count.l0 k l 0 ((0 : Nat) : Int) = _
    rw [hk]
    unfold cntR
    rw [List.drop_zero]
    cases ScanU.uCnt l.length l <;> simp
  exact trunnionref16_Count.calls k A c l _ W hF hc hk2
theorem V_nil : V [] = true := by rw [V_is [] (fun x hx => by simp at hx) (by simp)]; rfl
theorem takeM_off (l : List Int) (n a e : Int) (he : e ≠ 0) : takeM l n a e = ([], a, e) := by unfold takeM readsM; rw [if_neg he]
theorem takeM_nil (l : List Int) (n a e : Int) (h : (takeM l n a e).2.2 ≠ 0) : (takeM l n a e).1 = [] := by
  by_cases he : e = 0
  · subst he
    by_cases hn : n > (l.length : Int) - a
    · rw [takeM_no n hn]
    · rw [takeM_yes n hn] at h; simp at h
  · rw [takeM_off l n a e he]
theorem u32M_off (l : List Int) (a e : Int) (he : e ≠ 0) : u32M l a e = (0, a, e) := by unfold u32M readsM; rw [if_neg he]
/-- The name, as the document reads it. -/
def nameT (l : List Int) (a e : Int) : List Int × Int × Int := takeM l (u32M l a e).1 (u32M l a e).2.1 (u32M l a e).2.2
theorem nameM_false (l : List Int) (a e : Int) (h : V (nameT l a e).1 = false) : nameM l a e = ([], a, 102) ∧ fl 102 (nameT l a e).2.2 = 102 := by
  have ht : (nameT l a e).2.2 = 0 := by
    by_cases ht : (nameT l a e).2.2 = 0
    · exact ht
    · rw [nameT, takeM_nil _ _ _ _ ht, V_nil] at h; cases h
  have he : e = 0 := by
    by_cases he : e = 0
    · exact he
    · rw [nameT, u32M_off l a e he, takeM_off _ _ _ _ he] at ht; exact ht
  subst he
  unfold fl
  rw [if_pos ht]
  refine ⟨?_, rfl⟩
  unfold nameM readsM rM nameB
  unfold nameT at h ht
  simp only [if_true, ht, h, and_self]
  rfl
theorem nameM_true (l : List Int) (a e : Int) (h : V (nameT l a e).1 = true) : nameM l a e = if (nameT l a e).2.2 = 0 then nameT l a e else ([], a, (nameT l a e).2.2) := by
  by_cases he : e = 0
  · subst he
    unfold nameM readsM rM nameB
    unfold nameT at h ⊢
    simp only [if_true, h, Bool.true_eq_false, and_false, if_false]
  · unfold nameM readsM nameT
    rw [if_neg he, u32M_off l a e he, takeM_off _ _ _ _ he]
    simp only [if_neg he]
section
variable {w w2 W W' : World} {g c : Nat} {A : Option Addr} {l : List Int} {a e a1 e1 : Int}
theorem takeM_ok (n : Int) (hok : okB l) : okB (takeM l n a e).1 := by
  unfold takeM readsM rM takeB
  repeat' split
  all_goals first
    | (intro x hx; simp at hx; done)
    | exact fun x hx => hok x (List.mem_of_mem_drop (List.mem_of_mem_take hx))
theorem takeM_len6 (n : Int) (h6 : l.length ≤ 6000) : (takeM l n a e).1.length ≤ 6000 := by
  unfold takeM readsM rM takeB
  repeat' split
  all_goals (simp only [List.length_nil, List.length_take, List.length_drop]; omega)
set_option maxRecDepth 100000 in
set_option maxHeartbeats 1000000 in
theorem RName_calls (h : Rdr w g A c l a e) (h6 : l.length ≤ 6000) : Calls Try.prog 92 #[.pointer (some ⟨g, 0, none⟩)] w (RDid w g A c l (.string (strOfNums (nameM l a e).1)) (nameM l a e).2.1 (nameM l a e).2.2) := by
  have hu := Try.underlying22
  have UC := Aside0.mk (RUint_calls h h6)
  have UR := u32M_range l a e
  have N0 := Aside0.mk (nameM_false l a e)
  have N1 := Aside0.mk (nameM_true l a e)
  obtain ⟨rr, hrr⟩ : ∃ rr, rr = nameM l a e := ⟨_, rfl⟩
  rw [← hrr] at N0 N1 ⊢
  unfold nameT at N0 N1
  obtain ⟨u, hu_⟩ : ∃ u, u = u32M l a e := ⟨_, rfl⟩
  rw [← hu_] at UC UR N0 N1
  obtain ⟨un, ua, ue⟩ := u
  simp only at UC UR N0 N1
  have TC := Aside0.mk (fun (W : World) (hC : Rdr W g A c l ua ue) => RTake_calls hC un UR.1 UR.2)
  have TO := Aside0.mk (takeM_ok (l := l) (a := ua) (e := ue) un h.ok)
  have TL := Aside0.mk (takeM_len6 (l := l) (a := ua) (e := ue) un h6)
  obtain ⟨t, ht⟩ : ∃ t, t = takeM l un ua ue := ⟨_, rfl⟩
  rw [← ht] at TC TO TL N0 N1
  obtain ⟨bs, ta, te⟩ := t
  simp only at TC TO TL N0 N1
  have CV := cntR_V bs TO.out (by have := TL.out; omega)
  obtain ⟨cn, hcn⟩ : ∃ cn, cn = cntR bs := ⟨_, rfl⟩
  have CC := Aside0.mk (fun W A c hF hc => refCount_calls W A c bs hF hc TO.out TL.out)
  rw [← hcn] at CV CC
  have x1 := h.c1
  have AB := Aside0.mk (And.intro h.lo h.hi)
  have GLT := Aside0.mk h.lt
  obtain ⟨cv, c0, c1⟩ := CV
  have CVA := Aside0.mk cv
  clear h h6 hrr hu_ ht hcn cv UR
  cases hv : V bs with
  | false =>
    have d1 : decide (cn < 0) = true := decide_eq_true (CVA.out.2 hv)
    have NF := Aside0.mk (N0.out hv)
    clear N0 N1 hv
    have BK := Aside0.mk (fun (W : World) (hC : Rdr W g A c l ta 102) => RBack_calls hC a AB.out.1 AB.out.2)
    rw [if_neg (by decide)] at BK
    go_enter Try.func92, Try.ntmps92
    go_wp2_with (first
      | (go_at_call 75; refine UC.out.mono ?_; rintro e1 w1 ⟨rfl, hg, hc⟩; have HG := Aside0.mk hg; have TC2 := Aside0.mk (TC.out w1 hc); clear hg hc)
      | (go_at_call 90; refine TC2.out.mono ?_; rintro e1 w2 ⟨r, rfl, ⟨A', c', rfl, hc', hf⟩, hg, hc⟩; have HG2 := Aside0.mk (grown_then HG.out hg); have HC2 := Aside0.mk hc; have CC2 := Aside0.mk (CC.out w2 A' c' (Kd.F_now hf) hc'); clear hg hc hf hc')
      | (go_at_call 19; refine CC2.out.mono ?_; rintro e1 w3 ⟨rfl, hb⟩; have HG3 := Aside0.mk (grown_then HG2.out (grown_of_below hb _)); have FC := Aside0.mk (RFail_calls (HC2.out.below hb) 102); clear hb)
      | (go_at_call 61; refine FC.out.mono ?_; rintro e1 w4 ⟨rfl, hg, hc⟩; rw [NF.out.2] at hc; have HG4 := Aside0.mk (grown_then HG3.out hg); have y2 := hc.c2; have BK2 := Aside0.mk (BK.out w4 hc); clear hg hc)
      | (go_at_call 76; refine BK2.out.mono ?_; rintro e1 w5 ⟨rfl, hg, hc⟩; have HG5 := Aside0.mk (grown_then HG4.out hg); have HC5 := Aside0.mk hc; clear hg hc)
      | fail)
    go_ret
    exact ⟨by rw [NF.out.1]; rfl, HG5.out, by rw [NF.out.1]; exact HC5.out⟩
  | true =>
    have d1 : decide (cn < 0) = false := decide_eq_false (fun hlt => by have := CVA.out.1 hlt; rw [hv] at this; cases this)
    have NT := N1.out hv
    clear N0 N1 hv
    by_cases hte : te = 0
    · rw [if_pos hte] at NT
      subst hte
      have NF := Aside0.mk NT
      clear NT
      go_enter Try.func92, Try.ntmps92
      go_wp2_with (first
        | (go_at_call 75; refine UC.out.mono ?_; rintro e1 w1 ⟨rfl, hg, hc⟩; have HG := Aside0.mk hg; have TC2 := Aside0.mk (TC.out w1 hc); clear hg hc)
        | (go_at_call 90; refine TC2.out.mono ?_; rintro e1 w2 ⟨r, rfl, ⟨A', c', rfl, hc', hf⟩, hg, hc⟩; have HG2 := Aside0.mk (grown_then HG.out hg); have HC2 := Aside0.mk hc; have CC2 := Aside0.mk (CC.out w2 A' c' (Kd.F_now hf) hc'); have HF := Aside0.mk hf; clear hg hc hf hc')
        | (go_at_call 19; refine CC2.out.mono ?_; rintro e1 w3 ⟨rfl, hb⟩; have HG3 := Aside0.mk (grown_then HG2.out (grown_of_below hb _)); have hc3 := HC2.out.below hb; have HC3 := Aside0.mk hc3; have y2 := hc3.c2; have cv3 : (convert 22 9 (.slice A' bs.length c')).run Try.prog w3 = .ok (.string (strOfNums bs)) w3 := Kd.C_string Try.underlying22 Try.underlying5 Try.underlying9 (Kd.C_below (Kd.F_now HF.out) hb); clear hb hc3)
        | fail)
      go_ret
      exact ⟨by rw [NF.out]; rfl, HG3.out, by rw [NF.out]; exact HC3.out⟩
    · rw [if_neg hte] at NT
      have NF := Aside0.mk NT
      have d2 : ((te : Int) != 0) = true := by rw [bne_iff_ne]; exact hte
      have BK := Aside0.mk (fun (W : World) (hC : Rdr W g A c l ta te) => RBack_calls hC a AB.out.1 AB.out.2)
      rw [if_neg hte] at BK
      clear NT hte
      go_enter Try.func92, Try.ntmps92
      go_wp2_with (first
        | (go_at_call 75; refine UC.out.mono ?_; rintro e1 w1 ⟨rfl, hg, hc⟩; have HG := Aside0.mk hg; have TC2 := Aside0.mk (TC.out w1 hc); clear hg hc)
        | (go_at_call 90; refine TC2.out.mono ?_; rintro e1 w2 ⟨r, rfl, ⟨A', c', rfl, hc', hf⟩, hg, hc⟩; have HG2 := Aside0.mk (grown_then HG.out hg); have HC2 := Aside0.mk hc; have CC2 := Aside0.mk (CC.out w2 A' c' (Kd.F_now hf) hc'); clear hg hc hf hc')
        | (go_at_call 19; refine CC2.out.mono ?_; rintro e1 w3 ⟨rfl, hb⟩; have HG3 := Aside0.mk (grown_then HG2.out (grown_of_below hb _)); have hc3 := HC2.out.below hb; have y2 := hc3.c2; have BK2 := Aside0.mk (BK.out w3 hc3); clear hb hc3)
        | (go_at_call 76; refine BK2.out.mono ?_; rintro e1 w5 ⟨rfl, hg, hc⟩; have HG5 := Aside0.mk (grown_then HG3.out hg); have HC5 := Aside0.mk hc; clear hg hc)
        | fail)
      go_ret
      exact ⟨by rw [NF.out]; rfl, HG5.out, by rw [NF.out]; exact HC5.out⟩
theorem countM_over (l : List Int) (a e : Int) (h : (u32M l a e).1 > 4096) : countM l a e = (0, a, fl 3 (u32M l a e).2.2) ∧ fl 3 (u32M l a e).2.2 ≠ 0 := by
  have he : e = 0 := by
    by_cases he : e = 0
    · exact he
    · rw [u32M_off l a e he] at h; simp at h
  have hf : fl 3 (u32M l a e).2.2 ≠ 0 := by unfold fl; split <;> simp_all
  subst he
  refine ⟨?_, hf⟩
  unfold countM readsM rM countB
  simp only [if_true, if_pos h, if_neg hf]
theorem countM_under (l : List Int) (a e : Int) (h : ¬ (u32M l a e).1 > 4096) : countM l a e = if (u32M l a e).2.2 = 0 then u32M l a e else (0, a, (u32M l a e).2.2) := by
  by_cases he : e = 0
  · subst he
    unfold countM readsM rM countB
    simp only [if_true, if_neg h]
  · unfold countM readsM
    rw [if_neg he, u32M_off l a e he]
    simp only [if_neg he]
set_option maxRecDepth 100000 in
set_option maxHeartbeats 1000000 in
theorem RCount_calls (h : Rdr w g A c l a e) (h6 : l.length ≤ 6000) : Calls Try.prog 94 #[.pointer (some ⟨g, 0, none⟩)] w (RDid w g A c l (.int .i64 (countM l a e).1) (countM l a e).2.1 (countM l a e).2.2) := by
  have UC := Aside0.mk (RUint_calls h h6)
  have UR := u32M_range l a e
  have N0 := Aside0.mk (countM_over l a e)
  have N1 := Aside0.mk (countM_under l a e)
  obtain ⟨rr, hrr⟩ : ∃ rr, rr = countM l a e := ⟨_, rfl⟩
  rw [← hrr] at N0 N1 ⊢
  obtain ⟨u, hu_⟩ : ∃ u, u = u32M l a e := ⟨_, rfl⟩
  rw [← hu_] at UC UR N0 N1
  obtain ⟨un, ua, ue⟩ := u
  simp only at UC UR N0 N1
  have x1 := h.c1
  have AB := Aside0.mk (And.intro h.lo h.hi)
  obtain ⟨u0, u1⟩ := UR
  clear h h6 hrr hu_
  by_cases hn : un > 4096
  · have d1 : decide (un > 4096) = true := decide_eq_true hn
    have NF := Aside0.mk (N0.out hn)
    clear N0 N1 hn
    have BK := Aside0.mk (fun (W : World) (hC : Rdr W g A c l ua (fl 3 ue)) => RBack_calls hC a AB.out.1 AB.out.2)
    rw [if_neg NF.out.2] at BK
    have d2 : ((fl 3 ue : Int) != 0) = true := by rw [bne_iff_ne]; exact NF.out.2
    go_enter Try.func94, Try.ntmps94
    go_wp2_with (first
      | (go_at_call 75; refine UC.out.mono ?_; rintro e1 w1 ⟨rfl, hg, hc⟩; have HG := Aside0.mk hg; have FC := Aside0.mk (RFail_calls hc 3); clear hg hc)
      | (go_at_call 61; refine FC.out.mono ?_; rintro e1 w4 ⟨rfl, hg, hc⟩; have HG4 := Aside0.mk (grown_then HG.out hg); have y2 := hc.c2; have BK2 := Aside0.mk (BK.out w4 hc); clear hg hc)
      | (go_at_call 76; refine BK2.out.mono ?_; rintro e1 w5 ⟨rfl, hg, hc⟩; have HG5 := Aside0.mk (grown_then HG4.out hg); have HC5 := Aside0.mk hc; clear hg hc)
      | fail)
    go_ret
    exact ⟨by rw [NF.out.1]; rfl, HG5.out, by rw [NF.out.1]; exact HC5.out⟩
  · have d1 : decide (un > 4096) = false := decide_eq_false hn
    have NT := N1.out hn
    clear N0 N1 hn
    by_cases hte : ue = 0
    · rw [if_pos hte] at NT
      subst hte
      have NF := Aside0.mk NT
      clear NT
      go_enter Try.func94, Try.ntmps94
      go_wp2_with (first
        | (go_at_call 75; refine UC.out.mono ?_; rintro e1 w1 ⟨rfl, hg, hc⟩; have HG := Aside0.mk hg; have HC := Aside0.mk hc; have y2 := hc.c2; clear hg hc)
        | fail)
      go_ret
      exact ⟨by rw [NF.out]; rfl, HG.out, by rw [NF.out]; exact HC.out⟩
    · rw [if_neg hte] at NT
      have NF := Aside0.mk NT
      have d2 : ((ue : Int) != 0) = true := by rw [bne_iff_ne]; exact hte
      have BK := Aside0.mk (fun (W : World) (hC : Rdr W g A c l ua ue) => RBack_calls hC a AB.out.1 AB.out.2)
      rw [if_neg hte] at BK
      clear NT hte
      go_enter Try.func94, Try.ntmps94
      go_wp2_with (first
        | (go_at_call 75; refine UC.out.mono ?_; rintro e1 w1 ⟨rfl, hg, hc⟩; have HG := Aside0.mk hg; have y2 := hc.c2; have BK2 := Aside0.mk (BK.out w1 hc); clear hg hc)
        | (go_at_call 76; refine BK2.out.mono ?_; rintro e1 w5 ⟨rfl, hg, hc⟩; have HG5 := Aside0.mk (grown_then HG.out hg); have HC5 := Aside0.mk hc; clear hg hc)
        | fail)
      go_ret
      exact ⟨by rw [NF.out]; rfl, HG5.out, by rw [NF.out]; exact HC5.out⟩
end
end Go.Proofs.Ytjhdnlgbboboiaa.Scan
