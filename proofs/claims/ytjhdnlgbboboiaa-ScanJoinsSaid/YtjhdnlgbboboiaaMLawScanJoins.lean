/- The walk of ScanJoins: it returns true. -/
import Derived.Test.YtjhdnlgbboboiaaMScanE
import Derived.Test.YtjhdnlgbboboiaaScanOpn
import Derived.Test.YtjhdnlgbboboiaaRows
import Derived.WalkKit
import Derived.ProofKit
import Derived.OpenShut
import Derived.ShutString
import Derived.ChangeOld
import Derived.Below
import Derived.SizedLaws
namespace Go.Proofs.Ytjhdnlgbboboiaa.Scan
open Go.Proofs.Ytjhdnlgbboboiaa.ScanOpn Go.Proofs.Ytjhdnlgbboboiaa.Leb Go.Proofs.Ytjhdnlgbboboiaa.Mem Go.RowKit Go.Proofs.YtjhdnlgbboboiaaW.PrintWords Go.Proofs.YtjhdnlgbboboiaaW.PrintLast Go.Proofs.YtjhdnlgbboboiaaW.PrintMore Go.Proofs.Ytjhdnlgbboboiaa.Base
set_option linter.unusedVariables false
set_option linter.unusedSimpArgs false
/-- A reader that has failed is laid beside a cursor. -/
theorem Cur.blind {W : World} {g c : Nat} {A : Option Addr} {l : List Int} {a e : Int} (h : Cur W g A c l a e) : Both (W.alloc (.cells #[.slice none 0 0, .int .i64 0, .int .i64 1] 57)) g W.heap.size A c l a e none 0 [] 0 1 := by
  have hb := below_alloc (Below.refl W.heap.size W) (.cells #[.slice none 0 0, .int .i64 0, .int .i64 1] 57)
  have h1 := h.below hb
  have hlt := h.lt
  refine ⟨by omega, h1.box, heap_alloc_new W _, ?_, fun W' _ => Kd.C_nil _ W', h1.cap, Nat.le_refl _, h1.lo, h1.hi, Int.le_refl _, Int.le_refl _, h1.ok, fun x hx => by simp at hx, h1.sm, by decide⟩
  exact Kd.F_mono (Kd.F_step (Foot.bound h.bytes) fun k hk hlt => hb.block k hlt) fun k hk => ⟨hk.1, by have := hk.2; omega⟩
/-- An op by a cursor alone. -/
theorem blind_read {W : World} {g c : Nat} {A : Option Addr} {l : List Int} {a e : Int} (h : Cur W g A c l a e) (k n : Int) :
    Calls Try.prog 34 #[.pointer (some ⟨g, 0, none⟩), .pointer (some ⟨W.heap.size, 0, none⟩), .agg #[.int .i64 k, .int .i64 n]] (W.alloc (.cells #[.slice none 0 0, .int .i64 0, .int .i64 1] 57))
      fun en w' => (∃ bv, en = .returned (.bool bv)) ∧ W.grownBy w' (some g) ∧ Cur w' g A c l (opM k n l a e).1 (opM k n l a e).2 := by
  have hb := below_alloc (Below.refl W.heap.size W) (.cells #[.slice none 0 0, .int .i64 0, .int .i64 1] 57)
  refine (read_calls h.blind k n).mono ?_
  rintro en w' ⟨bv, rfl, _, hg, hB⟩
  refine ⟨⟨bv, rfl⟩, ⟨hg.os.trans hb.os, hg.tape.trans hb.tape, hg.output.trans hb.output, Nat.le_trans hb.size hg.size, fun i hi hn => ?_⟩, hB.cur⟩
  exact (hg.block i (Nat.lt_of_lt_of_le hi hb.size) (fun e => hn (by rw [e])) (by omega)).trans (hb.block i hi)
set_option maxRecDepth 100000 in
set_option maxHeartbeats 1000000 in
/-- A new cursor over bytes: its bytes are new, too. -/
theorem New_fresh (w : World) (AB : Option Addr) (cB : Nat) (bs : List Int) (hbs : bs.length ≤ 1000000) (hok : okB bs) (hF : Kd.C ku w AB bs.length bs) :
    Calls Try.prog 33 #[.slice AB bs.length cB] w fun en w' => ∃ g A c, en = .returned (.pointer (some ⟨g, 0, none⟩)) ∧ Below w.heap.size w w' ∧ w.heap.size ≤ g ∧ Cur w' g A c bs 0 0 ∧ Kd.F ku w' (fun k => w.heap.size ≤ k ∧ k ≠ g) A bs.length bs := by
  have hu := Try.underlying22
  have RW := Aside0.mk (raw_scalar hF)
  have SM := Aside0.mk (show (0 + bs.length) * 1 ≤ 140737488355328 by omega)
  have HB := Aside0.mk hbs
  have HO := Aside0.mk hok
  clear hF hbs hok
  go_enter Try.func33, Try.ntmps33
  go_wp2_with (first
    | (at_builtin
       refine loose_append rfl (.const (.slice none 0 0)) (.tmp 3) 22 5 (.int .u8 0) 1 1 rfl Try.underlying22 info5 rfl (by decide) (by decide) (.slice none 0 0) 0 [] AB bs.length cB (encs (Value.int .u8) bs) (by simp [Act.eval, Act.put]) (by simp [Act.eval, Act.put]) (Loose.nil _ _ _) RW.out SM.out ?_
       intro v1 w3 h1 h2 h3
       rw [Nat.zero_add, List.nil_append] at h1
       have h4 : BytesP w.heap.size bs v1 w3 := loose_bytes h1 (fun b hb => by
         rcases h3 with e | ⟨b', e, hle⟩
         · rw [e] at hb; cases hb
         · rw [e] at hb
           injection hb with hb
           omega)
       clear h1 h3
       obtain ⟨A1, c1, rfl, hc1, hF⟩ := h4
       have GF := Aside0.mk (And.intro hc1 hF)
       have G2 := Aside0.mk h2
       clear h2 hc1 hF)
    | fail)
  go_ret
  have hb : Below w.heap.size w w3 := ⟨G2.out.os, G2.out.tape, G2.out.output, G2.out.size, fun i hi => G2.out.block i hi (by simp [Value.ownBlock])⟩
  have hf := Kd.F_step (W1 := w3.alloc (.cells #[.slice A1 bs.length c1, .int .i64 0, .int .i64 0] 68)) GF.out.2 fun k hk hlt => heap_alloc_old _ hlt
  refine ⟨w3.heap.size, A1, c1, rfl, hb.alloc hb.size _, hb.size, ⟨heap_alloc_new w3 _, ?_, GF.out.1, Int.le_refl _, Int.natCast_nonneg _, HO.out, HB.out⟩, ?_⟩
  · exact Kd.F_mono hf fun k hk => by omega
  · exact Kd.F_mono hf fun k hk => ⟨hk.1, by omega⟩
/-- A cursor, where a block of another's has changed. -/
theorem Cur.other {w w2 : World} {g t c : Nat} {A : Option Addr} {l : List Int} {a e : Int} (h : Cur w g A c l a e) (hF : Kd.F ku w (fun k => k ≠ g ∧ k ≠ t) A l.length l) (hg : w.grownBy w2 (some t)) (hne : g ≠ t) : Cur w2 g A c l a e ∧ Kd.F ku w2 (fun k => k ≠ g ∧ k ≠ t) A l.length l := by
  have hf := Kd.F_step hF fun k hk hlt => hg.block k hlt (fun e => hk.2 (Option.some.inj e))
  exact ⟨⟨(hg.block g h.lt (fun e => hne (Option.some.inj e))).trans h.box, Kd.F_mono hf fun k hk => hk.1, h.cap, h.lo, h.hi, h.ok, h.sm⟩, hf⟩
theorem below_own {w w1 w2 : World} {B : Nat} {o : Option Nat} (h : Below B w w1) (hg : w1.grownBy w2 o) (hB : ∀ b, o = some b → B ≤ b) (hs : B ≤ w1.heap.size) : Below B w w2 :=
  ⟨hg.os.trans h.os, hg.tape.trans h.tape, hg.output.trans h.output, Nat.le_trans h.size hg.size, fun i hi => (hg.block i (by omega) (fun e => by have := hB i e.symm; omega)).trans (h.block i hi)⟩
set_option maxRecDepth 100000 in
set_option maxHeartbeats 1000000 in
/-- The law's own function: an op by a cursor alone. -/
theorem blind_calls {w : World} {g c : Nat} {A : Option Addr} {l : List Int} {a e : Int} (h : Cur w g A c l a e) (b : Nat) (k n : Int) (hb : w.heap[b]? = some (.cells #[.int .i64 k, .int .i64 n] 59 (0, 0))) :
    Calls Try.prog 39 #[.pointer (some ⟨g, 0, none⟩), .pointer (some ⟨b, 0, none⟩)] w (Did w g A c l (.tuple #[]) (opM k n l a e).1 (opM k n l a e).2) := by
  have BR := Aside0.mk (blind_read h k n)
  have q := (heap_alloc_old (.cells #[.slice none 0 0, .int .i64 0, .int .i64 1] 57) (blk_lt hb)).trans hb
  have z0 := (blk_cell q 0).trans rfl
  have z1 := (blk_cell q 1).trans rfl
  clear h hb q
  go_enter Try.func39, Try.ntmps39
  go_wp2_with (first
    | (go_at_call 34; refine BR.out.mono ?_; rintro e2 w3 ⟨⟨bv, rfl⟩, hg, hC⟩; have HG := Aside0.mk hg; have HC := Aside0.mk hC; clear hg hC)
    | fail)
  go_end0
  exact ⟨rfl, HG.out, HC.out⟩
/-- What three ops do, in plain words. -/
theorem joins_plain (k n : Int) (hk : k ≠ 15) (l m : List Int) :
    (opM k n l 0 0).2 = 100 ∨ ((opM k n (l ++ m) 0 0) = opM k n l 0 0 ∧ ((opM k n l 0 0).2 = 0 → (opM k n l 0 0).1 = l.length → (opM k n (l ++ m) (l.length : Int) 0).1 - (l.length : Int) = (opM k n m 0 0).1 ∧ (opM k n (l ++ m) (l.length : Int) 0).2 = (opM k n m 0 0).2)) := by
  have H := op_holds k n hk
  rcases H.acts.join l 0 _ _ m 0 (Ahead.same (Int.le_refl _) (Int.natCast_nonneg _)) with ⟨_, h⟩ | ⟨_, e1, e2⟩
  · exact .inl h
  · right
    have e1' : (opM k n (l ++ m) 0 0).1 - 0 = (opM k n l 0 0).1 - 0 := e1
    refine ⟨Prod.ext (by omega) e2, fun _ _ => ?_⟩
    rcases H.acts.join m 0 _ _ [] 0 (Ahead.behind (l := l)) with ⟨hm, _⟩ | ⟨_, f1, f2⟩
    · exact absurd rfl hm
    · have f1' : (opM k n (l ++ m) (l.length : Int) 0).1 - (l.length : Int) = (opM k n m 0 0).1 - 0 := f1
      exact ⟨by omega, f2⟩
set_option maxRecDepth 100000 in
set_option maxHeartbeats 8000000 in
theorem ScanJoins_walk (w : World) (A : Option Addr) (c : Nat) (xs : List Int) (has : xs.length ≤ c) (ha : Kd.C ku w A xs.length xs) (hoa : okB xs) (B : Option Addr) (d : Nat) (bs : List Int) (hbs : bs.length ≤ d) (hb : Kd.C ku w B bs.length bs) (hob : okB bs) (k n : Int) :
    Calls Try.prog 14 #[.slice A xs.length c, .slice B bs.length d, .agg #[.int .i64 k, .int .i64 n]] w fun e w' => e = .returned (.bool true) ∧ Below w.heap.size w w' := by
  have AC := Aside0.mk (awake_calls (w.alloc (.cells #[.int .i64 k, .int .i64 n] 59)))
  have hb0 := below_alloc (Below.refl w.heap.size w) (.cells #[.int .i64 k, .int .i64 n] 59)
  have BX := Aside0.mk (heap_alloc_new w (.cells #[.int .i64 k, .int .i64 n] 59))
  have HA := Aside0.mk ha
  have HB := Aside0.mk hb
  have HAL := Aside0.mk has
  have HBL := Aside0.mk hbs
  have hu22 := Try.underlying22
  have HB0 := Aside0.mk hb0
  have hs0 : (w.alloc (.cells #[.int .i64 k, .int .i64 n] 59)).heap.size = w.heap.size + 1 := World.size_alloc _ _
  by_cases h6 : (xs.length : Int) > 3000
  · have d1 : decide ((xs.length : Int) > 3000) = true := decide_eq_true h6
    clear ha hb hoa hob has hbs hb0 hs0
    go_enter Try.func14, Try.ntmps14
    go_wp2_with fail
    refine AC.out.mono ?_
    rintro e w1 ⟨rfl, hb⟩
    have HB1 := Aside0.mk (below_then HB0.out HB0.out.size (show Below (w.alloc (.cells #[.int .i64 k, .int .i64 n] 59)).heap.size _ _ from hb))
    have q1 := (hb.block _ (blk_lt BX.out)).trans BX.out
    have y0 := (blk_cell q1 0).trans rfl
    have y1 := (blk_cell q1 1).trans rfl
    clear hb q1
    go_wp2
    go_ret
    exact ⟨rfl, HB1.out⟩
  have d1 : decide ((xs.length : Int) > 3000) = false := decide_eq_false h6
  by_cases h7 : (bs.length : Int) > 3000
  · have d2 : decide ((bs.length : Int) > 3000) = true := decide_eq_true h7
    clear ha hb hoa hob has hbs hb0 hs0
    go_enter Try.func14, Try.ntmps14
    go_wp2_with fail
    refine AC.out.mono ?_
    rintro e w1 ⟨rfl, hb⟩
    have HB1 := Aside0.mk (below_then HB0.out HB0.out.size (show Below (w.alloc (.cells #[.int .i64 k, .int .i64 n] 59)).heap.size _ _ from hb))
    have q1 := (hb.block _ (blk_lt BX.out)).trans BX.out
    have y0 := (blk_cell q1 0).trans rfl
    have y1 := (blk_cell q1 1).trans rfl
    clear hb q1
    go_wp2
    go_ret
    exact ⟨rfl, HB1.out⟩
  have d2 : decide ((bs.length : Int) > 3000) = false := decide_eq_false h7
  by_cases k15 : k = 15
  · subst k15
    clear ha hb hoa hob has hbs hb0 hs0
    go_enter Try.func14, Try.ntmps14
    go_wp2_with fail
    refine AC.out.mono ?_
    rintro e w1 ⟨rfl, hb⟩
    have HB1 := Aside0.mk (below_then HB0.out HB0.out.size (show Below (w.alloc (.cells #[.int .i64 15, .int .i64 n] 59)).heap.size _ _ from hb))
    have q1 := (hb.block _ (blk_lt BX.out)).trans BX.out
    have y0 := (blk_cell q1 0).trans rfl
    have y1 := (blk_cell q1 1).trans rfl
    clear hb q1
    go_wp2
    go_ret
    exact ⟨rfl, HB1.out⟩
  have n15 : ¬ k = 15 := k15
  have JP := joins_plain k n k15 xs bs
  have PF := Aside0.mk (show 0 ≤ (opM k n xs 0 0).1 ∧ (opM k n xs 0 0).1 ≤ (xs.length : Int) from (op_holds k n k15).acts.fwd xs 0 0 (Int.le_refl _) (Int.natCast_nonneg _))
  obtain ⟨zs, hzs⟩ : ∃ zs, zs = xs ++ bs := ⟨_, rfl⟩
  rw [← hzs] at JP
  have ZL := Aside0.mk (show zs.length = xs.length + bs.length by rw [hzs, List.length_append])
  have ZS := Aside0.mk hzs
  have NA := Aside0.mk (fun (W : World) (hW : Below w.heap.size w W) => New_calls W A c xs (by omega) hoa (Kd.C_below ha hW))
  have NB := Aside0.mk (fun (W : World) (hW : Below w.heap.size w W) => New_fresh W B d bs (by omega) hob (Kd.C_below hb hW))
  have H6 := Aside0.mk h6
  have H7 := Aside0.mk h7
  have OKJ := Aside0.mk (show okB zs from fun x hx => by rw [hzs] at hx; exact (List.mem_append.1 hx).elim (hoa x) (hob x))
  replace JP := Aside0.mk JP
  clear ha hb hoa hob has hbs hb0 h6 h7 k15 hzs
  go_enter Try.func14, Try.ntmps14
  go_wp2_with fail
  refine AC.out.mono ?_
  rintro e w1 ⟨rfl, hb⟩
  have HB1 := Aside0.mk (below_then HB0.out HB0.out.size (show Below (w.alloc (.cells #[.int .i64 k, .int .i64 n] 59)).heap.size _ _ from hb))
  have q1 := (hb.block _ (blk_lt BX.out)).trans BX.out
  have BX1 := Aside0.mk q1
  have y0 := (blk_cell q1 0).trans rfl
  have y1 := (blk_cell q1 1).trans rfl
  clear hb q1 hs0 AC
  go_wp2_with fail
  refine (NA.out _ HB1.out).mono ?_
  rintro e w2 ⟨gx, Ax, cx, rfl, hb2, hgx, hX⟩
  have HX2 := Aside0.mk hX
  have HG2 := Aside0.mk (show w.heap.size < gx from Nat.lt_of_lt_of_le (blk_lt BX1.out) hgx)
  have HB2 := Aside0.mk (below_then HB1.out HB1.out.size hb2)
  have q2 := (hb2.block _ (blk_lt BX1.out)).trans BX1.out
  have BX2 := Aside0.mk q2
  clear hX hgx hb2 q2 y0 y1 NA
  have hb3 := HB2.out.alloc HB2.out.size (.cells #[] 5)
  have LO := Aside0.mk (show Loose (w2.alloc (.cells #[] 5)) 5 1 (.slice (some ⟨w2.heap.size, 0, none⟩) 0 0) 0 [] from ⟨by simp, .inr ⟨w2.heap.size, 0, #[], rfl, heap_alloc_new w2 _, Nat.le_refl _, by simp, by simp, by simp⟩⟩)
  have RA := Aside0.mk (raw_scalar (Kd.C_below HA.out hb3))
  have HB3 := Aside0.mk hb3
  have L3 := Aside0.mk (show (0 + xs.length) * 1 ≤ 140737488355328 by have := H6.out; omega)
  have L4 := Aside0.mk (show (xs.length + bs.length) * 1 ≤ 140737488355328 by have := H6.out; have := H7.out; omega)
  have LZ := Aside0.mk (show zs.length ≤ 1000000 by have := H6.out; have := H7.out; have := ZL.out; omega)
  clear hb3
  go_wp2_with (first
    | (at_builtin
       refine loose_append rfl (.tmp 31) (.tmp 32) 22 5 (.int .u8 0) 1 1 rfl Try.underlying22 info5 rfl (by decide) (by decide) v1 xs.length (encs (Value.int .u8) xs) B bs.length d (encs (Value.int .u8) bs) (by simp [Act.eval, Act.put]) (by simp [Act.eval, Act.put]) LO3.out RB.out L4.out ?_
       intro v2 w4 h1 h2 h3
       rw [← ZL.out, show encs (Value.int .u8) xs ++ encs (Value.int .u8) bs = encs (Value.int .u8) zs by rw [ZS.out]; simp [encs]] at h1
       have hlo : ∀ b, v2.ownBlock = some b → w2.heap.size ≤ b := fun b hb => by
         rcases h3 with e | ⟨b', e, hle⟩
         · rw [e] at hb; exact OW.out b hb
         · rw [e] at hb
           injection hb with hb
           have := HB4.out.size
           have : w2.heap.size ≤ w3.heap.size := SZ3.out
           omega
       have h4 : BytesP w2.heap.size zs v2 w4 := loose_bytes h1 hlo
       have hbb := below_own HB4.out h2 (fun b hb => Nat.le_trans HB2.out.size (OW.out b hb)) HB4.out.size
       have hb2b := below_own B23.out h2 OW.out SZ3.out
       obtain ⟨A4, c4, rfl, hc4, hF⟩ := h4
       have HB5 := Aside0.mk hbb
       have B24 := Aside0.mk hb2b
       have NJ := Aside0.mk (New_fresh w4 A4 c4 zs LZ.out OKJ.out (Kd.F_now hF))
       clear h1 h2 h3 hlo hF hbb hb2b hc4)
    | (at_builtin
       refine loose_append rfl (.tmp 29) (.tmp 30) 22 5 (.int .u8 0) 1 1 rfl Try.underlying22 info5 rfl (by decide) (by decide) (.slice (some ⟨w2.heap.size, 0, none⟩) 0 0) 0 [] A xs.length c (encs (Value.int .u8) xs) (by simp [Act.eval, Act.put]) (by simp [Act.eval, Act.put]) LO.out RA.out L3.out ?_
       intro v1 w3 h1 h2 h3
       rw [Nat.zero_add, List.nil_append] at h1
       have how : ∀ b, v1.ownBlock = some b → w2.heap.size ≤ b := fun b hb => by
         rcases h3 with e | ⟨b', e, hle⟩
         · rw [e] at hb
           have : w2.heap.size = b := Option.some.inj hb
           omega
         · rw [e] at hb
           injection hb with hb
           rw [World.size_alloc] at hle
           omega
       have hb4 := below_own HB3.out h2 (fun b hb => by have : w2.heap.size = b := Option.some.inj hb; have := HB2.out.size; omega) HB3.out.size
       have hb23 := below_own (below_alloc (Below.refl w2.heap.size w2) (.cells #[] 5)) h2 (fun b hb => by have : w2.heap.size = b := Option.some.inj hb; omega) (by rw [World.size_alloc]; omega)
       have HB4 := Aside0.mk hb4
       have B23 := Aside0.mk hb23
       have SZ3 := Aside0.mk hb23.size
       have OW := Aside0.mk how
       have LO3 := Aside0.mk h1
       have RB := Aside0.mk (raw_scalar (Kd.C_below HB.out hb4))
       clear h1 h2 h3 how hb4 hb23 LO RA HB3 L3)
    | (go_at_call 33
       refine NJ.out.mono ?_
       rintro e w5 ⟨gy, Ay, cy, rfl, hb5, hgy, hY, hYF⟩
       have hx5 := (HX2.out.below (B24.out)).below (hb5.mono (Nat.le_refl _))
       have HX5 := Aside0.mk hx5
       have HY5 := Aside0.mk hY
       have GY := Aside0.mk (show w4.heap.size ≤ gy from hgy)
       have GXL := Aside0.mk (show gx < w4.heap.size from (HX2.out.below B24.out).lt)
       have YF5 := Aside0.mk (show Kd.F ku w5 (fun k => k ≠ gy ∧ k ≠ gx) Ay zs.length zs from Kd.F_mono hYF fun k hk => ⟨hk.2, by have := (HX2.out.below B24.out).lt; omega⟩)
       have HBW5 := Aside0.mk (below_then HB5.out HB5.out.size hb5)
       have B45 := Aside0.mk hb5
       have X4 := Aside0.mk (HX2.out.below B24.out)
       have bx5 := (hb5.block _ (Nat.lt_of_lt_of_le (blk_lt BX2.out) B24.out.size)).trans ((B24.out.block _ (blk_lt BX2.out)).trans BX2.out)
       have BX5 := Aside0.mk bx5
       clear hb5 hgy hY hYF hx5 bx5 NJ HX2 BX2 HB5 HB4 B23 SZ3 OW LO3 RB)
    | fail)
  have XC := Aside0.mk (blind_calls HX5.out w.heap.size k n BX5.out)
  have JPo := JP.out
  have PFo := PF.out
  obtain ⟨⟨a1, e1⟩, hp⟩ : ∃ p, p = opM k n xs 0 0 := ⟨_, rfl⟩
  rw [← hp] at XC JPo PFo
  simp only at XC JPo PFo
  have HZY := Aside0.mk (fun (W : World) (hY : Cur W gy Ay cy zs 0 0) (hb : W.heap[w.heap.size]? = some (.cells #[.int .i64 k, .int .i64 n] 59 (0, 0))) => blind_calls hY w.heap.size k n hb)
  have H60 := Aside0.mk (show (xs.length : Int) ≤ 3000 by have := H6.out; omega)
  clear hp JP PF
  by_cases c1 : e1 = 100
  · subst c1
    clear JPo PFo
    refine XC.out.mono ?_
    rintro e w6 ⟨rfl, hg, hX⟩
    have ho := HY5.out.other YF5.out hg (by have := GY.out; have := GXL.out; omega)
    have hw6 := below_grown HBW5.out hg (Nat.le_of_lt HG2.out) HBW5.out.size
    have bx6 := (hg.block _ (blk_lt BX5.out) (fun e => by have := Option.some.inj e; have := HG2.out; omega)).trans BX5.out
    have YC := Aside0.mk (HZY.out w6 ho.1 bx6)
    have BX6 := Aside0.mk bx6
    have HX6 := Aside0.mk hX
    have HBW6 := Aside0.mk hw6
    have G46 := Aside0.mk (grown_then (grown_of_below B45.out (some gx)) hg)
    clear hg hX ho hw6 bx6 HY5 YF5 BX5 HZY XC
    go_wp2_with (first
      | (go_at_call 39
         refine YC.out.mono ?_
         rintro e w7 ⟨rfl, hg, hY⟩
         have hx7 := (X4.out.off GY.out G46.out HX6.out hg).2
         have hw7 := below_grown HBW6.out hg (by have := GY.out; have := GXL.out; have := HG2.out; omega) HBW6.out.size
         have BX7 := Aside0.mk ((hg.block _ (blk_lt BX6.out) (fun e => by have := Option.some.inj e; have := GY.out; have := GXL.out; have := HG2.out; omega)).trans BX6.out)
         have HBW7 := Aside0.mk hw7
         have HX7 := Aside0.mk hx7
         have HY7 := Aside0.mk hY
         have EX := Aside0.mk (Err_calls hx7)
         have EY := Aside0.mk (Err_calls hY)
         have TX := Aside0.mk (At_calls hx7)
         have TY := Aside0.mk (At_calls hY)
         have LX := Aside0.mk (Left_calls hx7)
         clear hg hY hx7 hw7 BX6 G46 HX6 YC)
      | (go_at_call 37; (with_reducible refine EX.out.mono ?_); rintro e2 w8 ⟨rfl, rfl⟩)
      | (go_at_call 37; (with_reducible refine EY.out.mono ?_); rintro e2 w8 ⟨rfl, rfl⟩)
      | (go_at_call 35; (with_reducible refine TX.out.mono ?_); rintro e2 w8 ⟨rfl, rfl⟩)
      | (go_at_call 35; (with_reducible refine TY.out.mono ?_); rintro e2 w8 ⟨rfl, rfl⟩)
      | (go_at_call 36; (with_reducible refine LX.out.mono ?_); rintro e2 w8 ⟨rfl, nq, rfl⟩)
      | fail)
    go_ret
    exact ⟨rfl, HBW7.out⟩
  have dc1 : ((e1 : Int) == 100) = false := beq_eq_false_iff_ne.2 c1
  by_cases c2 : e1 = 0
  · subst c2
    rcases JPo with j0 | ⟨j1, j2⟩
    · exact absurd j0 c1
    rw [j1] at HZY
    simp only at HZY
    by_cases c3 : (xs.length : Int) - a1 > 0
    · have d3 : decide ((xs.length : Int) - a1 > 0) = true := decide_eq_true c3
      have n3 : a1 < (xs.length : Int) := by omega
      clear j1 j2 c1 PFo c3
      refine XC.out.mono ?_
      rintro e w6 ⟨rfl, hg, hX⟩
      have ho := HY5.out.other YF5.out hg (by have := GY.out; have := GXL.out; omega)
      have hw6 := below_grown HBW5.out hg (Nat.le_of_lt HG2.out) HBW5.out.size
      have bx6 := (hg.block _ (blk_lt BX5.out) (fun e => by have := Option.some.inj e; have := HG2.out; omega)).trans BX5.out
      have YC := Aside0.mk (HZY.out w6 ho.1 bx6)
      have BX6 := Aside0.mk bx6
      have HX6 := Aside0.mk hX
      have HBW6 := Aside0.mk hw6
      have G46 := Aside0.mk (grown_then (grown_of_below B45.out (some gx)) hg)
      clear hg hX ho hw6 bx6 HY5 YF5 BX5 HZY XC
      go_wp2_with (first
        | (go_at_call 39
           refine YC.out.mono ?_
           rintro e w7 ⟨rfl, hg, hY⟩
           have hx7 := (X4.out.off GY.out G46.out HX6.out hg).2
           have hw7 := below_grown HBW6.out hg (by have := GY.out; have := GXL.out; have := HG2.out; omega) HBW6.out.size
           have BX7 := Aside0.mk ((hg.block _ (blk_lt BX6.out) (fun e => by have := Option.some.inj e; have := GY.out; have := GXL.out; have := HG2.out; omega)).trans BX6.out)
           have HBW7 := Aside0.mk hw7
           have HX7 := Aside0.mk hx7
           have HY7 := Aside0.mk hY
           have EX := Aside0.mk (Err_calls hx7)
           have EY := Aside0.mk (Err_calls hY)
           have TX := Aside0.mk (At_calls hx7)
           have TY := Aside0.mk (At_calls hY)
           have LX := Aside0.mk (Left_calls hx7)
           clear hg hY hx7 hw7 BX6 G46 HX6 YC)
        | (go_at_call 37; (with_reducible refine EX.out.mono ?_); rintro e2 w8 ⟨rfl, rfl⟩)
        | (go_at_call 37; (with_reducible refine EY.out.mono ?_); rintro e2 w8 ⟨rfl, rfl⟩)
        | (go_at_call 35; (with_reducible refine TX.out.mono ?_); rintro e2 w8 ⟨rfl, rfl⟩)
        | (go_at_call 35; (with_reducible refine TY.out.mono ?_); rintro e2 w8 ⟨rfl, rfl⟩)
        | (go_at_call 36; (with_reducible refine LX.out.mono ?_); rintro e2 w8 ⟨rfl, nq, rfl⟩)
        | fail)
      go_ret
      exact ⟨rfl, pw_below_drewN HBW7.out _⟩
    · have d3 : decide ((xs.length : Int) - a1 > 0) = false := decide_eq_false c3
      have ha1 : a1 = (xs.length : Int) := by omega
      have j3 := j2 rfl ha1
      rw [← ha1] at j3
      obtain ⟨⟨a4, e4⟩, h4⟩ : ∃ p, p = opM k n bs 0 0 := ⟨_, rfl⟩
      obtain ⟨⟨a3, e3⟩, h3⟩ : ∃ p, p = opM k n zs a1 0 := ⟨_, rfl⟩
      rw [← h4, ← h3] at j3
      simp only at j3
      obtain ⟨ja, je⟩ := j3
      rw [ha1] at ja
      subst je
      subst ja
      have EQ4 := Aside0.mk h4
      have EQ3 := Aside0.mk h3
      have n3 : ¬ a1 < (xs.length : Int) := by omega
      clear j1 j2 c1 PFo c3 h4 h3 ha1
      refine XC.out.mono ?_
      rintro e w6 ⟨rfl, hg, hX⟩
      have ho := HY5.out.other YF5.out hg (by have := GY.out; have := GXL.out; omega)
      have hw6 := below_grown HBW5.out hg (Nat.le_of_lt HG2.out) HBW5.out.size
      have bx6 := (hg.block _ (blk_lt BX5.out) (fun e => by have := Option.some.inj e; have := HG2.out; omega)).trans BX5.out
      have YC := Aside0.mk (HZY.out w6 ho.1 bx6)
      have BX6 := Aside0.mk bx6
      have HX6 := Aside0.mk hX
      have HBW6 := Aside0.mk hw6
      have G46 := Aside0.mk (grown_then (grown_of_below B45.out (some gx)) hg)
      clear hg hX ho hw6 bx6 HY5 YF5 BX5 HZY XC
      go_wp2_with (first
        | (go_at_call 39
           refine YC2.out.mono ?_
           rintro e w10 ⟨rfl, hg, hY⟩
           have hz10 := (HZ9.out.other ZF9.out hg (by have := HGZ.out; have := HGY.out; omega)).1
           have HBW10 := Aside0.mk (below_grown HBW9.out hg (by have := GY.out; have := GXL.out; have := HG2.out; omega) HBW9.out.size)
           have l3 := hY.lo
           have h3 := hY.hi
           have hzl : zs.length ≤ 6000 := by have := ZL.out; have := H6.out; have := H7.out; omega
           have h60 := H60.out
           have q9 : IntKind.i64.wrap (a3 - (xs.length : Int)) = a3 - (xs.length : Int) := by simp only [IntKind.wrap_i64]; omega
           have q10 : ((a3 - (xs.length : Int)) == IntKind.i64.wrap (a3 - (xs.length : Int))) = true := by rw [q9]; simp
           have EZ2 := Aside0.mk (Err_calls hz10)
           have EY2 := Aside0.mk (Err_calls hY)
           have TZ2 := Aside0.mk (At_calls hz10)
           have TY2 := Aside0.mk (At_calls hY)
           clear hg hY hz10 l3 h3 hzl h60 YC2 HZ9 ZF9)
        | (go_at_call 39
           refine ZC.out.mono ?_
           rintro e w9 ⟨rfl, hg, hZ⟩
           have hy9 := (Y7.out.off HGZ.out (grown_of_below HB8.out (some gy)) HY8.out hg).2
           have hw9 := below_grown HBW8.out hg (by have := HGZ.out; have := BL7.out; omega) HBW8.out.size
           have bx9 := (hg.block _ (blk_lt BX8.out) (fun e => by have := Option.some.inj e; have := HGZ.out; have := BL7.out; omega)).trans BX8.out
           have zf9 := Kd.F_step ZF8.out fun k hk hlt => hg.block k hlt (fun e => hk.2 (Option.some.inj e))
           have ZF9 := Aside0.mk (show Kd.F ku w9 (fun k => k ≠ gz ∧ k ≠ gy) Az bs.length bs from Kd.F_mono zf9 fun k hk => ⟨hk.2, by have := hk.1; have := HGY.out; omega⟩)
           have HZ9 := Aside0.mk hZ
           have HBW9 := Aside0.mk hw9
           have yc := blind_calls hy9 w.heap.size k n bx9
           rw [← EQ3.out] at yc
           have YC2 := Aside0.mk yc
           clear hg hZ hy9 hw9 bx9 zf9 yc ZC BX8 ZF8 HZ8)
        | (go_at_call 39
           refine YC.out.mono ?_
           rintro e w7 ⟨rfl, hg, hY⟩
           have hx7 := (X4.out.off GY.out G46.out HX6.out hg).2
           have hw7 := below_grown HBW6.out hg (by have := GY.out; have := GXL.out; have := HG2.out; omega) HBW6.out.size
           have BX7 := Aside0.mk ((hg.block _ (blk_lt BX6.out) (fun e => by have := Option.some.inj e; have := GY.out; have := GXL.out; have := HG2.out; omega)).trans BX6.out)
           have HBW7 := Aside0.mk hw7
           have HX7 := Aside0.mk hx7
           have HY7 := Aside0.mk hY
           have EX := Aside0.mk (Err_calls hx7)
           have EY := Aside0.mk (Err_calls hY)
           have TX := Aside0.mk (At_calls hx7)
           have TY := Aside0.mk (At_calls hY)
           have LX := Aside0.mk (Left_calls hx7)
           clear hg hY hx7 hw7 BX6 G46 HX6 YC)
        | (go_at_call 33
           (with_reducible refine (NB.out _ (pw_below_drewN HBW7.out nq)).mono ?_)
           rintro e w8 ⟨gz, Az, cz, rfl, hb8, hgz, hZ, hZF⟩
           have hy7 := HY7.out.below (pw_below_drewN (Below.refl w7.heap.size w7) nq)
           have hy8 := hy7.below hb8
           have hgy := hy7.lt
           have Y7 := Aside0.mk hy7
           have HY8 := Aside0.mk hy8
           have HZ8 := Aside0.mk hZ
           have HGZ := Aside0.mk hgz
           have HGY := Aside0.mk hgy
           have HB8 := Aside0.mk hb8
           have bx7 : (w7.drewN nq).heap[w.heap.size]? = some (.cells #[.int .i64 k, .int .i64 n] 59 (0, 0)) := ((pw_below_drewN (Below.refl w7.heap.size w7) nq).block _ (blk_lt BX7.out)).trans BX7.out
           have bx8 := (hb8.block _ (blk_lt bx7)).trans bx7
           have BX8 := Aside0.mk bx8
           have BL7 := Aside0.mk (blk_lt bx7)
           have ZF8 := Aside0.mk hZF
           have zc := blind_calls hZ w.heap.size k n bx8
           rw [← EQ4.out] at zc
           have ZC := Aside0.mk zc
           have HBW8 := Aside0.mk (below_then (pw_below_drewN HBW7.out nq) (pw_below_drewN HBW7.out nq).size hb8)
           clear hb8 hgz hZ hZF hy7 hy8 hgy bx7 bx8 zc EX EY TX TY LX BX7 NB)
        | (go_at_call 37; (with_reducible refine EZ2.out.mono ?_); rintro e2 w8 ⟨rfl, rfl⟩; clear EZ2)
        | (go_at_call 37; (with_reducible refine EY2.out.mono ?_); rintro e2 w8 ⟨rfl, rfl⟩; clear EY2)
        | (go_at_call 35; (with_reducible refine TZ2.out.mono ?_); rintro e2 w8 ⟨rfl, rfl⟩; clear TZ2)
        | (go_at_call 35; (with_reducible refine TY2.out.mono ?_); rintro e2 w8 ⟨rfl, rfl⟩; clear TY2)
        | (go_at_call 37; (with_reducible refine EX.out.mono ?_); rintro e2 w8 ⟨rfl, rfl⟩)
        | (go_at_call 37; (with_reducible refine EY.out.mono ?_); rintro e2 w8 ⟨rfl, rfl⟩)
        | (go_at_call 35; (with_reducible refine TX.out.mono ?_); rintro e2 w8 ⟨rfl, rfl⟩)
        | (go_at_call 35; (with_reducible refine TY.out.mono ?_); rintro e2 w8 ⟨rfl, rfl⟩)
        | (go_at_call 36; (with_reducible refine LX.out.mono ?_); rintro e2 w8 ⟨rfl, nq, rfl⟩)
        | fail)
      go_ret
      exact ⟨rfl, HBW10.out⟩
  · rcases JPo with j0 | ⟨j1, j2⟩
    · exact absurd j0 c1
    rw [j1] at HZY
    simp only at HZY
    have de : ((e1 : Int) != 0) = true := by rw [bne_iff_ne]; exact c2
    clear j1 j2 c1 PFo
    refine XC.out.mono ?_
    rintro e w6 ⟨rfl, hg, hX⟩
    have ho := HY5.out.other YF5.out hg (by have := GY.out; have := GXL.out; omega)
    have hw6 := below_grown HBW5.out hg (Nat.le_of_lt HG2.out) HBW5.out.size
    have bx6 := (hg.block _ (blk_lt BX5.out) (fun e => by have := Option.some.inj e; have := HG2.out; omega)).trans BX5.out
    have YC := Aside0.mk (HZY.out w6 ho.1 bx6)
    have BX6 := Aside0.mk bx6
    have HX6 := Aside0.mk hX
    have HBW6 := Aside0.mk hw6
    have G46 := Aside0.mk (grown_then (grown_of_below B45.out (some gx)) hg)
    clear hg hX ho hw6 bx6 HY5 YF5 BX5 HZY XC
    go_wp2_with (first
      | (go_at_call 39
         refine YC.out.mono ?_
         rintro e w7 ⟨rfl, hg, hY⟩
         have hx7 := (X4.out.off GY.out G46.out HX6.out hg).2
         have hw7 := below_grown HBW6.out hg (by have := GY.out; have := GXL.out; have := HG2.out; omega) HBW6.out.size
         have BX7 := Aside0.mk ((hg.block _ (blk_lt BX6.out) (fun e => by have := Option.some.inj e; have := GY.out; have := GXL.out; have := HG2.out; omega)).trans BX6.out)
         have HBW7 := Aside0.mk hw7
         have HX7 := Aside0.mk hx7
         have HY7 := Aside0.mk hY
         have EX := Aside0.mk (Err_calls hx7)
         have EY := Aside0.mk (Err_calls hY)
         have TX := Aside0.mk (At_calls hx7)
         have TY := Aside0.mk (At_calls hY)
         have LX := Aside0.mk (Left_calls hx7)
         clear hg hY hx7 hw7 BX6 G46 HX6 YC)
      | (go_at_call 37; (with_reducible refine EX.out.mono ?_); rintro e2 w8 ⟨rfl, rfl⟩)
      | (go_at_call 37; (with_reducible refine EY.out.mono ?_); rintro e2 w8 ⟨rfl, rfl⟩)
      | (go_at_call 35; (with_reducible refine TX.out.mono ?_); rintro e2 w8 ⟨rfl, rfl⟩)
      | (go_at_call 35; (with_reducible refine TY.out.mono ?_); rintro e2 w8 ⟨rfl, rfl⟩)
      | (go_at_call 36; (with_reducible refine LX.out.mono ?_); rintro e2 w8 ⟨rfl, nq, rfl⟩)
      | fail)
    go_ret
    exact ⟨rfl, HBW7.out⟩
end Go.Proofs.Ytjhdnlgbboboiaa.Scan

/- What is read of bytes is read of these with others behind them: the row, for every input. -/
namespace Go.Proofs.Ytjhdnlgbboboiaa.scanJoins
open Go.ChangeShapes Go.WideShapes Go.ChangeAt Go.RowKit
set_option linter.unusedVariables false
theorem own : ownKnob Try.prog.godebug = none := by kernel_rfl
theorem laidOut : laidOutB Try.prog = true := by kernel_rfl
set_option maxRecDepth 100000 in
theorem lifted (os : Os) (started : os.Started) (H : Type) (enc : TypeId × Value → H) :
    ReturnsInHanded {} Try.checked os 14 .any (Rows.scanJoinsSpec.pre6 enc Try.prog Try.f14 Rows.scanJoinsRow.domain false) (Rows.scanJoinsSpec.post enc Try.prog Try.f14 false true false false) := by
  refine returnsInHanded_of_change_sized (C := Try.checked) own started (by kernel_rfl) Try.func14
    (ChangeSpec.witness6 (enc := enc) (C := Try.checked) false ⟨#[], #[.slice none 0 0, .slice none 0 0, .agg #[.int .i64 0, .int .i64 0]], []⟩ 8 (by kernel_rfl) (by kernel_rfl) (by kernel_rfl) (by kernel_rfl)) ?_
  intro W base args ds gs before hval0 hW hcnd hsz0 _
  have hval : ∀ (j : Nat) t v, Try.f14.params[j]? = some t → args[j]? = some v → Value.okWide Try.prog W .any base t v := hval0
  have hW' := hW
  obtain ⟨p, q, hA0, hV, rfl, hfz, hnd⟩ := hW
  have hA : DataW.TrodAll enc Try.prog W 0 (fun _ => true) true Try.f14.params.toList args.toList ds p := hA0
  rw [Try.params14] at hA hval
  obtain ⟨v0, vs0, d0, ds0, p0, q0, hargs, rfl, rfl, h0, r0⟩ := trodAll_cons hA
  obtain ⟨v1, vs1, d1, ds1, p1, q1, rfl, rfl, rfl, h1, r1⟩ := trodAll_cons r0
  obtain ⟨v2, vs2, d2, ds2, p2, q2, rfl, rfl, rfl, h2, r2⟩ := trodAll_cons r1
  obtain ⟨rfl, rfl, rfl⟩ := trodAll_nil r2
  obtain rfl : args = #[v0, v1, v2] := by cases args; simp_all
  obtain ⟨rfl, rfl⟩ := trodVars_none hV
  obtain ⟨a0, len0, cap0, rfl⟩ := okWide_slice Try.underlying22 (hval 0 22 v0 rfl rfl)
  have k0 := h0
  have lt0 : ∀ x ∈ p0, x.block < W.heap.size := by obtain ⟨m, hm⟩ := k0; exact DataW.trod_lt m _ _ _ hm
  obtain ⟨a1, len1, cap1, rfl⟩ := okWide_slice Try.underlying22 (hval 1 22 v1 rfl rfl)
  have k1 := h1
  have lt1 : ∀ x ∈ p1, x.block < W.heap.size := by obtain ⟨m, hm⟩ := k1; exact DataW.trod_lt m _ _ _ hm
  obtain ⟨cs2, rfl, hs2⟩ := okWide_struct Try.underlying59 (hval 2 59 v2 rfl rfl)
  have k2 := h2
  have lt2 : ∀ x ∈ p2, x.block < W.heap.size := by obtain ⟨m, hm⟩ := k2; exact DataW.trod_lt m _ _ _ hm
  obtain ⟨fuel0, hf0⟩ := h0
  obtain ⟨l0, ⟨A0, c0, e0, hc0, hr0⟩, ok0⟩ := (ScanOpn.opens_slice Try.underlying22 (by kernel_rfl) (by kernel_rfl) fun n hn => ScanOpn.opens_int8 n Try.underlying5 (by kernel_rfl)).2 _ _ hf0
  simp only [Value.cells, List.cons.injEq, and_true, Value.slice.injEq] at e0
  obtain ⟨rfl, rfl, rfl⟩ := e0
  obtain ⟨fuel1, hf1⟩ := h1
  obtain ⟨l1, ⟨A1, c1, e1, hc1, hr1⟩, ok1⟩ := (ScanOpn.opens_slice Try.underlying22 (by kernel_rfl) (by kernel_rfl) fun n hn => ScanOpn.opens_int8 n Try.underlying5 (by kernel_rfl)).2 _ _ hf1
  simp only [Value.cells, List.cons.injEq, and_true, Value.slice.injEq] at e1
  obtain ⟨rfl, rfl, rfl⟩ := e1
  obtain ⟨fuel2, hf2⟩ := h2
  obtain ⟨X2, hk2, ok2⟩ := (ScanOpn.open59 fuel2).2 _ _ hf2
  obtain rfl : cs2 = #[.int .i64 X2.f0, .int .i64 X2.f1] := Array.toList_inj.1 (ScanOpn.k59_open hk2)
  clear hA0 hval0 hsz0
  refine (Scan.ScanJoins_walk W _ _ l0 hc0 hr0 ok0.2 _ _ l1 hc1 hr1 ok1.2 X2.f0 X2.f1).mono fun e W' ⟨he, bel⟩ => ?_
  subst he
  exact ⟨_, rfl, _, _, _, [], _, [], hW', trodAll_mk1 (shut_bool Try.underlying4 _), (trodAll_cons_mk (Below.trod laidOut (by kernel_rfl) (of_decide_eq_true (by kernel_rfl)) k0 bel lt0) (trodAll_cons_mk (Below.trod laidOut (by kernel_rfl) (of_decide_eq_true (by kernel_rfl)) k1 bel lt1) (trodAll_cons_mk (Below.trod laidOut (by kernel_rfl) (of_decide_eq_true (by kernel_rfl)) k2 bel lt2) trodAll_mk0))), rfl, bel.frame _, fun h => by cases h⟩
theorem over : Rows.scanJoinsRow.holds Try.pinned (OpenSpec.ofChange Rows.scanJoinsSpec) :=
  OpenClaim.holds_of_wide 14 Try.f14 rfl rfl rfl rfl rfl rfl rfl ⟨rfl, rfl, rfl, rfl, rfl⟩ rfl rfl rfl rfl rfl (by kernel_rfl) Try.func14 (by kernel_rfl)
    (of_decide_eq_true (by kernel_rfl)) (by unfold Func.isWrapper; first | (rw [if_pos (by decide +kernel)]; kernel_rfl) | (rw [if_neg (by decide +kernel)]; exact ⟨rfl, rfl⟩))
    (fun os started H enc _ => lifted os started H enc)
theorem proved : Rows.ScanJoinsSaid := over
#print axioms proved
end Go.Proofs.Ytjhdnlgbboboiaa.scanJoins
namespace Go.Proofs.Ytjhdnlgbboboiaa
/-- The row, under a short name, for the claim. -/
theorem scanJoins_holds : Rows.ScanJoinsSaid := scanJoins.proved
end Go.Proofs.Ytjhdnlgbboboiaa
