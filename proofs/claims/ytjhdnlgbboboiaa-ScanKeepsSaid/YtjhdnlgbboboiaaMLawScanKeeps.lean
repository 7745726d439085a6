/- The walk of ScanKeeps: it returns true. -/
import Derived.Test.YtjhdnlgbboboiaaMScanE
import Derived.Test.YtjhdnlgbboboiaaScanOpn
import Derived.Test.YtjhdnlgbboboiaaRows
import Derived.WalkKit
import Derived.ProofKit
import Derived.OpenShut
import Derived.ShutString
import Derived.ChangeOld
import Derived.Below
import Derived.SizedLaws
namespace Go.Proofs.Ytjhdnlgbboboiaa.Scan
open Go.Proofs.Ytjhdnlgbboboiaa.ScanOpn Go.Proofs.Ytjhdnlgbboboiaa.Leb Go.Proofs.Ytjhdnlgbboboiaa.Mem Go.RowKit Go.Proofs.YtjhdnlgbboboiaaW.PrintWords Go.Proofs.YtjhdnlgbboboiaaW.PrintLast Go.Proofs.YtjhdnlgbboboiaaW.PrintMore Go.Proofs.Ytjhdnlgbboboiaa.Base
set_option linter.unusedVariables false
set_option linter.unusedSimpArgs false
/-- A reader that has failed is laid beside a cursor. -/
theorem Cur.blind {W : World} {g c : Nat} {A : Option Addr} {l : List Int} {a e : Int} (h : Cur W g A c l a e) : Both (W.alloc (.cells #[.slice none 0 0, .int .i64 0, .int .i64 1] 57)) g W.heap.size A c l a e none 0 [] 0 1 := by
  have hb := below_alloc (Below.refl W.heap.size W) (.cells #[.slice none 0 0, .int .i64 0, .int .i64 1] 57)
  have h1 := h.below hb
  have hlt := h.lt
  refine ⟨by omega, h1.box, heap_alloc_new W _, ?_, fun W' _ => Kd.C_nil _ W', h1.cap, Nat.le_refl _, h1.lo, h1.hi, Int.le_refl _, Int.le_refl _, h1.ok, fun x hx => by simp at hx, h1.sm, by decide⟩
  exact Kd.F_mono (Kd.F_step (Foot.bound h.bytes) fun k hk hlt => hb.block k hlt) fun k hk => ⟨hk.1, by have := hk.2; omega⟩
/-- An op by a cursor alone. -/
theorem blind_read {W : World} {g c : Nat} {A : Option Addr} {l : List Int} {a e : Int} (h : Cur W g A c l a e) (k n : Int) :
    Calls Try.prog 34 #[.pointer (some ⟨g, 0, none⟩), .pointer (some ⟨W.heap.size, 0, none⟩), .agg #[.int .i64 k, .int .i64 n]] (W.alloc (.cells #[.slice none 0 0, .int .i64 0, .int .i64 1] 57))
      fun en w' => (∃ bv, en = .returned (.bool bv)) ∧ W.grownBy w' (some g) ∧ Cur w' g A c l (opM k n l a e).1 (opM k n l a e).2 := by
  have hb := below_alloc (Below.refl W.heap.size W) (.cells #[.slice none 0 0, .int .i64 0, .int .i64 1] 57)
  refine (read_calls h.blind k n).mono ?_
  rintro en w' ⟨bv, rfl, _, hg, hB⟩
  refine ⟨⟨bv, rfl⟩, ⟨hg.os.trans hb.os, hg.tape.trans hb.tape, hg.output.trans hb.output, Nat.le_trans hb.size hg.size, fun i hi hn => ?_⟩, hB.cur⟩
  exact (hg.block i (Nat.lt_of_lt_of_le hi hb.size) (fun e => hn (by rw [e])) (by omega)).trans (hb.block i hi)
theorem heap59 : Kd.Heap k59 := Kd.heap_iso _ (Kd.heap_pair (Kd.heap_int _) (Kd.heap_int _))
theorem at_59 {w : World} {A : Option Addr} {n : Nat} {xs : List S59} (h : Kd.C k59 w A n xs) (i : Nat) (h1 : i < n) : ∃ ad, A = some ad ∧ ∀ W : World, Below w.heap.size w W →
    W.cell? (ad.add (i * 2)) = some (.int .i64 (xs.getD i z59).f0) ∧ W.cell? ⟨(ad.add (i * 2)).block, (ad.add (i * 2)).off + 1, none⟩ = some (.int .i64 (xs.getD i z59).f1) := by
  obtain ⟨ad, c, e, _, hK, hc0, _⟩ := Kd.F_get (Kd.C_F heap59 h) z59 (i : Int) (by omega) (by omega)
  have hc : ∀ W : World, Below w.heap.size w W → ∀ j u, c[j]? = some u → W.cell? (ad.add (((i : Int)).toNat * 2 + j)) = some u := fun W hW j u hu => pw_cell_below hW (hc0 j u hu)
  have hk := k59_open (Kd.FK_now hK)
  subst hk
  simp only [Int.toNat_natCast] at hc
  refine ⟨ad, e, fun W hW => ⟨hc W hW 0 _ rfl, ?_⟩⟩
  rw [← add_field _ _ 1 (by omega)]
  exact hc W hW 1 _ rfl
def LoopK (w : World) (g : Nat) (A : Option Addr) (c : Nat) (l : List Int) (w' : World) : Prop := ∃ a e, Cur w' g A c l a e ∧ Below w.heap.size w w'
/-- What one op does, in plain words. -/
theorem op_plain (k n : Int) (hk : k ≠ 15) (l : List Int) (a e : Int) (h0 : 0 ≤ a) (h1 : a ≤ (l.length : Int)) :
    (e ≠ 0 → opM k n l a e = (a, e)) ∧ (e = 0 → a ≤ (opM k n l a e).1 ∧ (opM k n l a e).1 ≤ (l.length : Int) ∧ ((opM k n l a e).2 ≠ 0 → (opM k n l a e).1 = a) ∧ opM k n (l.drop a.toNat) 0 0 = ((opM k n l a e).1 - a, (opM k n l a e).2)) := by
  have H := op_holds k n hk
  refine ⟨fun he => H.off l a e he, fun he => ?_⟩
  subst he
  have f := H.acts.fwd l a 0 h0 h1
  refine ⟨f.1, f.2, fun hb => H.back l a hb, ?_⟩
  rcases H.acts.join l a _ _ _ 0 (Ahead.cut h0 h1) with ⟨hm, _⟩ | ⟨_, e1, e2⟩
  · exact absurd rfl hm
  · have e1' : (opM k n (l.drop a.toNat) 0 0).1 - 0 = (opM k n l a 0).1 - a := e1
    have e2' : (opM k n (l.drop a.toNat) 0 0).2 = (opM k n l a 0).2 := e2
    exact Prod.ext (by show _ = (opM k n l a 0).1 - a; omega) e2'
set_option maxRecDepth 100000 in
set_option maxHeartbeats 8000000 in
theorem ScanKeeps_walk (w : World) (A : Option Addr) (c : Nat) (bs : List Int) (hbs : bs.length ≤ c) (hb : Kd.C ku w A bs.length bs) (hok : okB bs) (AO : Option Addr) (cO : Nat) (l : List S59) (hl : l.length ≤ cO) (hr : Kd.C k59 w AO l.length l) :
    Calls Try.prog 13 #[.slice A bs.length c, .slice AO l.length cO] w fun e w' => e = .returned (.bool true) ∧ Below w.heap.size w w' := by
  have AC := Aside0.mk (awake_calls w)
  have HB := Aside0.mk hb
  have HBS := Aside0.mk hbs
  have HOK := Aside0.mk hok
  have HR := Aside0.mk hr
  have HL := Aside0.mk hl
  have hu59 := Try.underlying59
  have hu52 := Try.underlying52
  have hu22 := Try.underlying22
  by_cases h6 : (bs.length : Int) > 6000
  · have d1 : decide ((bs.length : Int) > 6000) = true := decide_eq_true h6
    clear hb hbs hok hr hl h6
    go_enter Try.func13, Try.ntmps13
    go_wp2_with fail
    refine AC.out.mono ?_
    rintro e w1 ⟨rfl, hb⟩
    have HB1 := Aside0.mk hb
    clear hb
    go_wp2
    go_ret
    exact ⟨rfl, HB1.out⟩
  have d1 : decide ((bs.length : Int) > 6000) = false := decide_eq_false h6
  by_cases h60 : (l.length : Int) > 60
  · have d2 : decide ((l.length : Int) > 60) = true := decide_eq_true h60
    clear hb hbs hok hr hl h6 h60
    go_enter Try.func13, Try.ntmps13
    go_wp2_with fail
    refine AC.out.mono ?_
    rintro e w1 ⟨rfl, hb⟩
    have HB1 := Aside0.mk hb
    clear hb
    go_wp2
    go_ret
    exact ⟨rfl, HB1.out⟩
  have d2 : decide ((l.length : Int) > 60) = false := decide_eq_false h60
  have H6 := Aside0.mk h6
  have H60 := Aside0.mk h60
  have NC := Aside0.mk (fun (W : World) (hW : Below w.heap.size w W) => New_calls W A c bs (by omega) hok (Kd.C_below hb hW))
  clear hb hbs hok hr hl h6 h60
  go_enter Try.func13, Try.ntmps13
  go_wp2_with fail
  refine AC.out.mono ?_
  rintro e w1 ⟨rfl, hb⟩
  have HB1 := Aside0.mk hb
  clear hb
  go_wp2_with fail
  refine (NC.out w1 HB1.out).mono ?_
  rintro e w2 ⟨g, A1, c1, rfl, hb, hg, hc⟩
  have HB2 := Aside0.mk (below_then HB1.out HB1.out.size hb)
  have HI0 : Aside0 (LoopK w g A1 c1 bs w2) := ⟨0, 0, hc, HB2.out⟩
  have GGE := Aside0.mk (show w.heap.size ≤ g from Nat.le_trans HB1.out.size hg)
  clear hb hg hc NC AC HB2
  go_wp2_with fail
  go_loopg [25] l.length (fun d v25 w' => ∃ i : Nat, v25 = .int .i64 (i : Int) ∧ Aside0 (i + d = l.length) ∧ Aside0 (LoopK w g A1 c1 bs w'))
  case atStart => exact ⟨0, rfl, ⟨by omega⟩, HI0⟩
  case round =>
    clear HI0
    obtain ⟨i, rfl, HD, HINV⟩ := hrel
    have hlen := H60.out
    have hd := HD.out
    cases gk with
    | zero =>
      have e1 : decide (i < l.length) = false := decide_eq_false (by omega)
      obtain ⟨a, e, _, hb⟩ := HINV.out
      have HBE := Aside0.mk hb
      clear hlen hd hb HINV
      go_wp2
      go_ret
      exact ⟨rfl, HBE.out⟩
    | succ d =>
      have hi : i < l.length := by omega
      have e1 : decide (i < l.length) = true := decide_eq_true hi
      have HI := Aside0.mk (show (i : Int) ≤ 60 by omega)
      have hiI : (i : Int) ≤ 60 := by omega
      obtain ⟨a, e, hC, hb⟩ := HINV.out
      obtain ⟨ad, eA, hx⟩ := at_59 HR.out i hi
      subst eA
      obtain ⟨x0, x1⟩ := hx wr hb
      obtain ⟨X, hX⟩ : ∃ X, X = l.getD i z59 := ⟨_, rfl⟩
      rw [← hX] at x0 x1
      obtain ⟨k, n⟩ := X
      simp only at x0 x1
      have q6 : (bs.length : Int) ≤ 6000 := by have := H6.out; omega
      have hbx := below_alloc (Below.refl wr.heap.size wr) (.cells #[.int .i64 k, .int .i64 n] 59)
      by_cases k15 : k = 15
      · subst k15
        have HE := Aside0.mk (show LoopK w g A1 c1 bs (wr.alloc (.cells #[.int .i64 15, .int .i64 n] 59)) from ⟨a, e, hC.below hbx, below_then hb hb.size hbx⟩)
        clear hX hx hlen hd hb hC HINV hbx
        go_wp2
        go_roundg d
        case measure => omega
        case rel => exact ⟨i + 1, by push_cast; rfl, ⟨by have := HD.out; omega⟩, HE⟩
      have n15 : ¬ k = 15 := k15
      have BX := Aside0.mk (heap_alloc_new wr (.cells #[.int .i64 k, .int .i64 n] 59))
      have C1 := hC.below hbx
      have HC1 := Aside0.mk C1
      have HB1b := Aside0.mk (below_then hb hb.size hbx)
      have BR := Aside0.mk (blind_read C1 k n)
      have AT1 := Aside0.mk (At_calls C1)
      have ER1 := Aside0.mk (Err_calls C1)
      have OP := op_plain k n k15 bs a e C1.lo C1.hi
      have a0 := C1.lo
      have a1_ := C1.hi
      have SZ := Aside0.mk hC.lt
      rw [World.size_alloc] at BR
      obtain ⟨⟨a1, e1⟩, hp⟩ : ∃ p, p = opM k n bs a e := ⟨_, rfl⟩
      rw [← hp] at BR OP
      simp only at BR OP
      have BX2 := Aside0.mk ((heap_alloc_old (.cells #[.slice none 0 0, .int .i64 0, .int .i64 1] 57) (blk_lt BX.out)).trans BX.out)
      have z0 := (blk_cell BX2.out 0).trans rfl
      have z1 := (blk_cell BX2.out 1).trans rfl
      clear hX hx hlen hd hb hC HINV C1 hp k15
      by_cases he : e = 0
      · subst he
        obtain ⟨o1, o2, o3, o4⟩ := OP.2 rfl
        clear OP
        have lt0 : ¬ a1 < a := by omega
        have gt0 : ¬ (bs.length : Int) < a1 := by omega
        have q0 : 0 ≤ a1 := by omega
        have q7 : IntKind.i64.wrap ((bs.length : Int) - a1) = (bs.length : Int) - a1 := by simp only [IntKind.wrap_i64]; omega
        have q8 : (((bs.length : Int) - a1) != IntKind.i64.wrap ((bs.length : Int) - a1)) = false := by rw [q7]; simp
        have q9 : IntKind.i64.wrap (a1 - a) = a1 - a := by simp only [IntKind.wrap_i64]; omega
        have q10 : ((a1 - a) != IntKind.i64.wrap (a1 - a)) = false := by rw [q9]; simp
        obtain ⟨A', hsl, hrd, hc'⟩ := bytes_drop A c bs a a0 a1_ HBS.out
        have LD : (bs.drop a.toNat).length ≤ 1000000 := by rw [List.length_drop]; omega
        have OD : okB (bs.drop a.toNat) := fun x hx => HOK.out x (List.mem_of_mem_drop hx)
        obtain ⟨ds, hds⟩ : ∃ ds, ds = bs.drop a.toNat := ⟨_, rfl⟩
        rw [← hds] at LD OD hsl hrd o4
        have DC := Aside0.mk o4
        have ND := Aside0.mk (fun (W : World) (hW : Below w.heap.size w W) => New_calls W A' (c - a.toNat) ds LD OD (hrd W (Kd.C_below HB.out hW)))
        have sl := hsl
        clear hrd hc' LD OD hsl hds o4
        by_cases he1 : e1 = 0
        · subst he1
          go_wp2_with (first
            | (go_at_call 33
               refine (ND.out _ (pw_below_drewN HB3.out nq)).mono ?_
               rintro e2 w5 ⟨gd, A5, c5, rfl, hb5, hgd, hCd⟩
               have hbb := below_then (pw_below_drewN (Below.refl w3.heap.size w3) nq) (Nat.le_refl _) hb5
               have HB5 := Aside0.mk hbb
               have HCd := Aside0.mk hCd
               have HGd := Aside0.mk (show w3.heap.size ≤ gd from hgd)
               have bx5 := (hbb.block _ (blk_lt BX3.out)).trans BX3.out
               have bx6 := (heap_alloc_old (.cells #[.slice none 0 0, .int .i64 0, .int .i64 1] 57) (blk_lt bx5)).trans bx5
               have y0 := (blk_cell bx6 0).trans rfl
               have y1 := (blk_cell bx6 1).trans rfl
               have BD := blind_read hCd k n
               rw [DC.out] at BD
               have BRD := Aside0.mk BD
               clear hb5 hgd hCd hbb bx5 bx6 BD AT3 ER3 ND)
            | (go_at_call 34
               refine BRD.out.mono ?_
               rintro e2 w7 ⟨⟨bv2, rfl⟩, hg, hCd⟩
               have hoff := HC3.out.off HGd.out (grown_of_below HB5.out (some g)) (HC3.out.below HB5.out) hg
               have HC7 := Aside0.mk hoff.2
               have HB7 := Aside0.mk (below_grown (below_then HB3.out HB3.out.size HB5.out) hg (by have := HGd.out; have := HB3.out.size; omega) (by have := HB5.out.size; have := HB3.out.size; omega))
               have ED := Aside0.mk (Err_calls hCd)
               have TD := Aside0.mk (At_calls hCd)
               have EC := Aside0.mk (Err_calls hoff.2)
               have TC := Aside0.mk (At_calls hoff.2)
               clear hg hCd hoff BRD y0 y1)
            | (go_at_call 37; refine ED.out.mono ?_; rintro e2 w8 ⟨rfl, rfl⟩; clear ED)
            | (go_at_call 37; refine EC.out.mono ?_; rintro e2 w8 ⟨rfl, rfl⟩; clear EC)
            | (go_at_call 35; refine TD.out.mono ?_; rintro e2 w8 ⟨rfl, rfl⟩; clear TD)
            | (go_at_call 35; refine TC.out.mono ?_; rintro e2 w8 ⟨rfl, rfl⟩; clear TC)
            | (go_at_call 34
               refine BR.out.mono ?_
               rintro e2 w3 ⟨⟨bv, rfl⟩, hg, hC3⟩
               have HC3 := Aside0.mk hC3
               have HB3 := Aside0.mk (below_grown HB1b.out hg GGE.out HB1b.out.size)
               have BX3 := Aside0.mk ((hg.block _ (blk_lt BX.out) (fun e => by have := Option.some.inj e; have := SZ.out; omega)).trans BX.out)
               have AT2 := Aside0.mk (At_calls hC3)
               have LF := Aside0.mk (Left_calls hC3)
               clear hg hC3 BR z0 z1 BX2)
            | (go_at_call 36
               refine LF.out.mono ?_
               rintro e2 w4 ⟨rfl, nq, rfl⟩
               have AT3 := Aside0.mk (At_calls (HC3.out.below (pw_below_drewN (Below.refl w3.heap.size w3) nq)))
               have ER3 := Aside0.mk (Err_calls (HC3.out.below (pw_below_drewN (Below.refl w3.heap.size w3) nq)))
               clear LF AT2)
            | (go_at_call 35; refine AT3.out.mono ?_; rintro e2 w6 ⟨rfl, rfl⟩)
            | (go_at_call 37; refine ER3.out.mono ?_; rintro e2 w6 ⟨rfl, rfl⟩)
            | (go_at_call 35; refine AT2.out.mono ?_; rintro e2 w6 ⟨rfl, rfl⟩)
            | (go_at_call 35; refine AT1.out.mono ?_; rintro e2 w6 ⟨rfl, rfl⟩; clear AT1)
            | (go_at_call 37; refine ER1.out.mono ?_; rintro e2 w6 ⟨rfl, rfl⟩; clear ER1)
            | fail)
          go_roundg d
          case measure => omega
          case rel => exact ⟨i + 1, by push_cast; rfl, ⟨by have := HD.out; omega⟩, ⟨⟨_, _, HC7.out, HB7.out⟩⟩⟩
        · have de1 : ((e1 : Int) != 0) = true := by rw [bne_iff_ne]; exact he1
          have hae : a1 = a := o3 he1
          subst hae
          clear he1
          go_wp2_with (first
            | (go_at_call 33
               refine (ND.out _ (pw_below_drewN HB3.out nq)).mono ?_
               rintro e2 w5 ⟨gd, A5, c5, rfl, hb5, hgd, hCd⟩
               have hbb := below_then (pw_below_drewN (Below.refl w3.heap.size w3) nq) (Nat.le_refl _) hb5
               have HB5 := Aside0.mk hbb
               have HCd := Aside0.mk hCd
               have HGd := Aside0.mk (show w3.heap.size ≤ gd from hgd)
               have bx5 := (hbb.block _ (blk_lt BX3.out)).trans BX3.out
               have bx6 := (heap_alloc_old (.cells #[.slice none 0 0, .int .i64 0, .int .i64 1] 57) (blk_lt bx5)).trans bx5
               have y0 := (blk_cell bx6 0).trans rfl
               have y1 := (blk_cell bx6 1).trans rfl
               have BD := blind_read hCd k n
               rw [DC.out] at BD
               have BRD := Aside0.mk BD
               clear hb5 hgd hCd hbb bx5 bx6 BD AT3 ER3 ND)
            | (go_at_call 34
               refine BRD.out.mono ?_
               rintro e2 w7 ⟨⟨bv2, rfl⟩, hg, hCd⟩
               have hoff := HC3.out.off HGd.out (grown_of_below HB5.out (some g)) (HC3.out.below HB5.out) hg
               have HC7 := Aside0.mk hoff.2
               have HB7 := Aside0.mk (below_grown (below_then HB3.out HB3.out.size HB5.out) hg (by have := HGd.out; have := HB3.out.size; omega) (by have := HB5.out.size; have := HB3.out.size; omega))
               have ED := Aside0.mk (Err_calls hCd)
               have TD := Aside0.mk (At_calls hCd)
               have EC := Aside0.mk (Err_calls hoff.2)
               have TC := Aside0.mk (At_calls hoff.2)
               clear hg hCd hoff BRD y0 y1)
            | (go_at_call 37; refine ED.out.mono ?_; rintro e2 w8 ⟨rfl, rfl⟩; clear ED)
            | (go_at_call 37; refine EC.out.mono ?_; rintro e2 w8 ⟨rfl, rfl⟩; clear EC)
            | (go_at_call 35; refine TD.out.mono ?_; rintro e2 w8 ⟨rfl, rfl⟩; clear TD)
            | (go_at_call 35; refine TC.out.mono ?_; rintro e2 w8 ⟨rfl, rfl⟩; clear TC)
            | (go_at_call 34
               refine BR.out.mono ?_
               rintro e2 w3 ⟨⟨bv, rfl⟩, hg, hC3⟩
               have HC3 := Aside0.mk hC3
               have HB3 := Aside0.mk (below_grown HB1b.out hg GGE.out HB1b.out.size)
               have BX3 := Aside0.mk ((hg.block _ (blk_lt BX.out) (fun e => by have := Option.some.inj e; have := SZ.out; omega)).trans BX.out)
               have AT2 := Aside0.mk (At_calls hC3)
               have LF := Aside0.mk (Left_calls hC3)
               clear hg hC3 BR z0 z1 BX2)
            | (go_at_call 36
               refine LF.out.mono ?_
               rintro e2 w4 ⟨rfl, nq, rfl⟩
               have AT3 := Aside0.mk (At_calls (HC3.out.below (pw_below_drewN (Below.refl w3.heap.size w3) nq)))
               have ER3 := Aside0.mk (Err_calls (HC3.out.below (pw_below_drewN (Below.refl w3.heap.size w3) nq)))
               clear LF AT2)
            | (go_at_call 35; refine AT3.out.mono ?_; rintro e2 w6 ⟨rfl, rfl⟩)
            | (go_at_call 37; refine ER3.out.mono ?_; rintro e2 w6 ⟨rfl, rfl⟩)
            | (go_at_call 35; refine AT2.out.mono ?_; rintro e2 w6 ⟨rfl, rfl⟩)
            | (go_at_call 35; refine AT1.out.mono ?_; rintro e2 w6 ⟨rfl, rfl⟩; clear AT1)
            | (go_at_call 37; refine ER1.out.mono ?_; rintro e2 w6 ⟨rfl, rfl⟩; clear ER1)
            | fail)
          go_roundg d
          case measure => omega
          case rel => exact ⟨i + 1, by push_cast; rfl, ⟨by have := HD.out; omega⟩, ⟨⟨_, _, HC7.out, HB7.out⟩⟩⟩
      · have oo := OP.1 he
        injection oo with oa oe
        subst oa
        subst oe
        clear OP
        have de : ((e1 : Int) != 0) = true := by rw [bne_iff_ne]; exact he
        have de2 : ((e1 : Int) == 0) = false := beq_eq_false_iff_ne.2 he
        have gt0 : ¬ (bs.length : Int) < a1 := by omega
        have q7 : IntKind.i64.wrap ((bs.length : Int) - a1) = (bs.length : Int) - a1 := by simp only [IntKind.wrap_i64]; omega
        have q8 : (((bs.length : Int) - a1) != IntKind.i64.wrap ((bs.length : Int) - a1)) = false := by rw [q7]; simp
        clear he
        go_wp2_with (first
          | (go_at_call 34
             refine BR.out.mono ?_
             rintro e2 w3 ⟨⟨bv, rfl⟩, hg, hC3⟩
             have HC3 := Aside0.mk hC3
             have HB3 := Aside0.mk (below_grown HB1b.out hg GGE.out HB1b.out.size)
             have BX3 := Aside0.mk ((hg.block _ (blk_lt BX.out) (fun e => by have := Option.some.inj e; have := SZ.out; omega)).trans BX.out)
             have AT2 := Aside0.mk (At_calls hC3)
             have LF := Aside0.mk (Left_calls hC3)
             clear hg hC3 BR z0 z1 BX2)
          | (go_at_call 36
             refine LF.out.mono ?_
             rintro e2 w4 ⟨rfl, nq, rfl⟩
             have AT3 := Aside0.mk (At_calls (HC3.out.below (pw_below_drewN (Below.refl w3.heap.size w3) nq)))
             have ER3 := Aside0.mk (Err_calls (HC3.out.below (pw_below_drewN (Below.refl w3.heap.size w3) nq)))
             clear LF AT2)
          | (go_at_call 35; refine AT3.out.mono ?_; rintro e2 w6 ⟨rfl, rfl⟩)
          | (go_at_call 37; refine ER3.out.mono ?_; rintro e2 w6 ⟨rfl, rfl⟩)
          | (go_at_call 35; refine AT2.out.mono ?_; rintro e2 w6 ⟨rfl, rfl⟩)
          | (go_at_call 35; refine AT1.out.mono ?_; rintro e2 w6 ⟨rfl, rfl⟩; clear AT1)
          | (go_at_call 37; refine ER1.out.mono ?_; rintro e2 w6 ⟨rfl, rfl⟩; clear ER1)
          | fail)
        go_roundg d
        case measure => omega
        case rel => exact ⟨i + 1, by push_cast; rfl, ⟨by have := HD.out; omega⟩, ⟨⟨a1, e1, HC3.out.below (pw_below_drewN (Below.refl _ _) _), pw_below_drewN HB3.out _⟩⟩⟩
end Go.Proofs.Ytjhdnlgbboboiaa.Scan

/- What is read goes forward or nowhere; behind the first failure nothing moves: the row, for every input. -/
namespace Go.Proofs.Ytjhdnlgbboboiaa.scanKeeps
open Go.ChangeShapes Go.WideShapes Go.ChangeAt Go.RowKit
set_option linter.unusedVariables false
theorem own : ownKnob Try.prog.godebug = none := by kernel_rfl
theorem laidOut : laidOutB Try.prog = true := by kernel_rfl
set_option maxRecDepth 100000 in
theorem lifted (os : Os) (started : os.Started) (H : Type) (enc : TypeId × Value → H) :
    ReturnsInHanded {} Try.checked os 13 .any (Rows.scanKeepsSpec.pre6 enc Try.prog Try.f13 Rows.scanKeepsRow.domain false) (Rows.scanKeepsSpec.post enc Try.prog Try.f13 false true false false) := by
  refine returnsInHanded_of_change_sized (C := Try.checked) own started (by kernel_rfl) Try.func13
    (ChangeSpec.witness6 (enc := enc) (C := Try.checked) false ⟨#[], #[.slice none 0 0, .slice none 0 0], []⟩ 8 (by kernel_rfl) (by kernel_rfl) (by kernel_rfl) (by kernel_rfl)) ?_
  intro W base args ds gs before hval0 hW hcnd hsz0 _
  have hval : ∀ (j : Nat) t v, Try.f13.params[j]? = some t → args[j]? = some v → Value.okWide Try.prog W .any base t v := hval0
  have hW' := hW
  obtain ⟨p, q, hA0, hV, rfl, hfz, hnd⟩ := hW
  have hA : DataW.TrodAll enc Try.prog W 0 (fun _ => true) true Try.f13.params.toList args.toList ds p := hA0
  rw [Try.params13] at hA hval
  obtain ⟨v0, vs0, d0, ds0, p0, q0, hargs, rfl, rfl, h0, r0⟩ := trodAll_cons hA
  obtain ⟨v1, vs1, d1, ds1, p1, q1, rfl, rfl, rfl, h1, r1⟩ := trodAll_cons r0
  obtain ⟨rfl, rfl, rfl⟩ := trodAll_nil r1
  obtain rfl : args = #[v0, v1] := by cases args; simp_all
  obtain ⟨rfl, rfl⟩ := trodVars_none hV
  obtain ⟨a0, len0, cap0, rfl⟩ := okWide_slice Try.underlying22 (hval 0 22 v0 rfl rfl)
  have k0 := h0
  have lt0 : ∀ x ∈ p0, x.block < W.heap.size := by obtain ⟨m, hm⟩ := k0; exact DataW.trod_lt m _ _ _ hm
  obtain ⟨a1, len1, cap1, rfl⟩ := okWide_slice Try.underlying52 (hval 1 52 v1 rfl rfl)
  have k1 := h1
  have lt1 : ∀ x ∈ p1, x.block < W.heap.size := by obtain ⟨m, hm⟩ := k1; exact DataW.trod_lt m _ _ _ hm
  obtain ⟨fuel0, hf0⟩ := h0
  obtain ⟨l0, ⟨A0, c0, e0, hc0, hr0⟩, ok0⟩ := (ScanOpn.opens_slice Try.underlying22 (by kernel_rfl) (by kernel_rfl) fun n hn => ScanOpn.opens_int8 n Try.underlying5 (by kernel_rfl)).2 _ _ hf0
  simp only [Value.cells, List.cons.injEq, and_true, Value.slice.injEq] at e0
  obtain ⟨rfl, rfl, rfl⟩ := e0
  obtain ⟨fuel1, hf1⟩ := h1
  obtain ⟨l1, ⟨A1, c1, e1, hc1, hr1⟩, ok1⟩ := (ScanOpn.opens_slice Try.underlying52 (by kernel_rfl) (by kernel_rfl) fun n hn => ScanOpn.open59 n).2 _ _ hf1
  simp only [Value.cells, List.cons.injEq, and_true, Value.slice.injEq] at e1
  obtain ⟨rfl, rfl, rfl⟩ := e1
  clear hA0 hval0 hsz0
  refine (Scan.ScanKeeps_walk W _ _ l0 hc0 hr0 ok0.2 _ _ l1 hc1 hr1).mono fun e W' ⟨he, bel⟩ => ?_
  subst he
  exact ⟨_, rfl, _, _, _, [], _, [], hW', trodAll_mk1 (shut_bool Try.underlying4 _), (trodAll_cons_mk (Below.trod laidOut (by kernel_rfl) (of_decide_eq_true (by kernel_rfl)) k0 bel lt0) (trodAll_cons_mk (Below.trod laidOut (by kernel_rfl) (of_decide_eq_true (by kernel_rfl)) k1 bel lt1) trodAll_mk0)), rfl, bel.frame _, fun h => by cases h⟩
theorem over : Rows.scanKeepsRow.holds Try.pinned (OpenSpec.ofChange Rows.scanKeepsSpec) :=
  OpenClaim.holds_of_wide 13 Try.f13 rfl rfl rfl rfl rfl rfl rfl ⟨rfl, rfl, rfl, rfl, rfl⟩ rfl rfl rfl rfl rfl (by kernel_rfl) Try.func13 (by kernel_rfl)
    (of_decide_eq_true (by kernel_rfl)) (by unfold Func.isWrapper; first | (rw [if_pos (by decide +kernel)]; kernel_rfl) | (rw [if_neg (by decide +kernel)]; exact ⟨rfl, rfl⟩))
    (fun os started H enc _ => lifted os started H enc)
theorem proved : Rows.ScanKeepsSaid := over
#print axioms proved
end Go.Proofs.Ytjhdnlgbboboiaa.scanKeeps
namespace Go.Proofs.Ytjhdnlgbboboiaa
/-- The row, under a short name, for the claim. -/
theorem scanKeeps_holds : Rows.ScanKeepsSaid := scanKeeps.proved
end Go.Proofs.Ytjhdnlgbboboiaa
