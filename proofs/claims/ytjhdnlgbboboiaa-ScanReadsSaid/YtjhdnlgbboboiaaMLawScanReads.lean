/- The walk of ScanReads: it returns true. -/
import Derived.Test.YtjhdnlgbboboiaaMScanE
import Derived.Test.YtjhdnlgbboboiaaScanOpn
import Derived.Deep.RegionHeld
import Derived.Test.YtjhdnlgbboboiaaRows
import Derived.WalkKit
import Derived.ProofKit
import Derived.OpenShut
import Derived.ShutString
import Derived.ChangeOld
import Derived.Below
import Derived.SizedLaws
namespace Go
theorem wpAnyH_mono {P : Program} {md : Region.Mode} {ops : Array Oper} {Q : Exit → Act → World → Prop} {S S' : World → Prop} (hS : ∀ w, S' w → S w) : ∀ (fuel : Nat) (listed : Array Bool) (a : Act) (w : World), wpAnyH P md ops Q S' fuel listed a w → wpAnyH P md ops Q S fuel listed a w
  | 0, _, _, _, h => h
  | fuel + 1, _, _, _, h => ⟨h.1, fun i hi => wpOp_mono (fun a' w' h' => ⟨hS w' h'.1, wpAnyH_mono hS fuel _ a' w' h'.2⟩) (h.2 i hi)⟩
end Go
namespace Go.Proofs.Ytjhdnlgbboboiaa.Scan
open Go.Proofs.Ytjhdnlgbboboiaa.ScanOpn Go.Proofs.Ytjhdnlgbboboiaa.Leb Go.Proofs.Ytjhdnlgbboboiaa.Mem Go.RowKit Go.Proofs.YtjhdnlgbboboiaaW.PrintWords Go.Proofs.YtjhdnlgbboboiaaW.PrintLast Go.Proofs.YtjhdnlgbboboiaaW.PrintMore Go.Proofs.Ytjhdnlgbboboiaa.Base
set_option linter.unusedVariables false
set_option linter.unusedSimpArgs false
theorem heap59 : Kd.Heap k59 := Kd.heap_iso _ (Kd.heap_pair (Kd.heap_int _) (Kd.heap_int _))
theorem at_59 {w : World} {A : Option Addr} {n : Nat} {xs : List S59} (h : Kd.C k59 w A n xs) (i : Nat) (h1 : i < n) : ∃ ad, A = some ad ∧ ∀ W : World, Below w.heap.size w W →
    W.cell? (ad.add (i * 2)) = some (.int .i64 (xs.getD i z59).f0) ∧ W.cell? ⟨(ad.add (i * 2)).block, (ad.add (i * 2)).off + 1, none⟩ = some (.int .i64 (xs.getD i z59).f1) := by
  obtain ⟨ad, c, e, _, hK, hc0, _⟩ := Kd.F_get (Kd.C_F heap59 h) z59 (i : Int) (by omega) (by omega)
  have hc : ∀ W : World, Below w.heap.size w W → ∀ j u, c[j]? = some u → W.cell? (ad.add (((i : Int)).toNat * 2 + j)) = some u := fun W hW j u hu => pw_cell_below hW (hc0 j u hu)
  have hk := k59_open (Kd.FK_now hK)
  subst hk
  simp only [Int.toNat_natCast] at hc
  refine ⟨ad, e, fun W hW => ⟨hc W hW 0 _ rfl, ?_⟩⟩
  rw [← add_field _ _ 1 (by omega)]
  exact hc W hW 1 _ rfl
theorem below_two {w w1 w2 : World} {B g r : Nat} (h : Below B w w1) (hg : Grown2 w1 w2 g r) (hB : B ≤ g) (hr : B ≤ r) (hs : B ≤ w1.heap.size) : Below B w w2 :=
  ⟨hg.os.trans h.os, hg.tape.trans h.tape, hg.output.trans h.output, Nat.le_trans h.size hg.size, fun i hi => (hg.block i (by omega) (by omega) (by omega)).trans (h.block i hi)⟩
def Loop (w : World) (g r : Nat) (A : Option Addr) (c : Nat) (l : List Int) (A' : Option Addr) (c' : Nat) (w' : World) : Prop := ∃ a e, Both w' g r A c l a e A' c' l a e ∧ Below w.heap.size w w'
set_option maxRecDepth 100000 in
set_option maxHeartbeats 8000000 in
theorem ScanReads_walk (w : World) (A : Option Addr) (c : Nat) (bs : List Int) (hbs : bs.length ≤ c) (hb : Kd.C ku w A bs.length bs) (hok : okB bs) (AO : Option Addr) (cO : Nat) (l : List S59) (hl : l.length ≤ cO) (hr : Kd.C k59 w AO l.length l) :
    Calls Try.prog 11 #[.slice A bs.length c, .slice AO l.length cO] w fun e w' => e = .returned (.bool true) ∧ Below w.heap.size w w' := by
  have AC := Aside0.mk (awake_calls w)
  have HB := Aside0.mk hb
  have HBS := Aside0.mk hbs
  have HOK := Aside0.mk hok
  have HR := Aside0.mk hr
  have HL := Aside0.mk hl
  have hu59 := Try.underlying59
  have hu52 := Try.underlying52
  by_cases h6 : (bs.length : Int) > 6000
  · have d1 : decide ((bs.length : Int) > 6000) = true := decide_eq_true h6
    clear hb hbs hok hr hl h6
    go_enter Try.func11, Try.ntmps11
    go_wp2_with fail
    refine AC.out.mono ?_
    rintro e w1 ⟨rfl, hb⟩
    have HB1 := Aside0.mk hb
    clear hb
    go_wp2
    go_ret
    exact ⟨rfl, HB1.out⟩
  have d1 : decide ((bs.length : Int) > 6000) = false := decide_eq_false h6
  by_cases h60 : (l.length : Int) > 60
  · have d2 : decide ((l.length : Int) > 60) = true := decide_eq_true h60
    clear hb hbs hok hr hl h6 h60
    go_enter Try.func11, Try.ntmps11
    go_wp2_with fail
    refine AC.out.mono ?_
    rintro e w1 ⟨rfl, hb⟩
    have HB1 := Aside0.mk hb
    clear hb
    go_wp2
    go_ret
    exact ⟨rfl, HB1.out⟩
  have d2 : decide ((l.length : Int) > 60) = false := decide_eq_false h60
  have H6 := Aside0.mk h6
  have H60 := Aside0.mk h60
  have NC := Aside0.mk (fun (W : World) (hW : Below w.heap.size w W) => New_calls W A c bs (by omega) hok (Kd.C_below hb hW))
  clear hb hbs hok hr hl h6 h60
  go_enter Try.func11, Try.ntmps11
  go_wp2_with fail
  refine AC.out.mono ?_
  rintro e w1 ⟨rfl, hb⟩
  have HB1 := Aside0.mk hb
  clear hb
  go_wp2_with fail
  refine (NC.out w1 HB1.out).mono ?_
  rintro e w2 ⟨g, A1, c1, rfl, hb, hg, hc⟩
  have HB2 := Aside0.mk (below_then HB1.out HB1.out.size hb)
  have HI0 : Aside0 (Loop w g w2.heap.size A1 c1 bs A c (w2.alloc (.cells #[.slice A bs.length c, .int .i64 0, .int .i64 0] 57))) := ⟨0, 0, by
    have hb2 := below_alloc (Below.refl w2.heap.size w2) (.cells #[.slice A bs.length c, .int .i64 0, .int .i64 0] 57)
    have h1 := hc.below hb2
    have hlt := hc.lt
    have hgg : w.heap.size ≤ g := Nat.le_trans HB1.out.size hg
    have hsz := HB2.out.size
    refine ⟨by omega, h1.box, heap_alloc_new w2 _, ?_, ?_, h1.cap, HBS.out, h1.lo, h1.hi, h1.lo, h1.hi, h1.ok, h1.ok, h1.sm, by have := H6.out; omega⟩
    · exact Kd.F_mono (Kd.F_step (Foot.bound hc.bytes) fun k hk hlt => hb2.block k hlt) fun k hk => ⟨hk.1, by have := hk.2; omega⟩
    · exact Kd.F_mono (Kd.F_step (Kd.C_F (Kd.heap_int _) HB.out) fun k hk hlt => (HB2.out.alloc HB2.out.size _).block k hk) fun k hk => ⟨by omega, by omega⟩, HB2.out.alloc HB2.out.size _⟩
  obtain ⟨r, hr⟩ : ∃ r, r = w2.heap.size := ⟨_, rfl⟩
  obtain ⟨w3, hw3⟩ : ∃ w3, w3 = w2.alloc (.cells #[.slice A bs.length c, .int .i64 0, .int .i64 0] 57) := ⟨_, rfl⟩
  have hge : w.heap.size ≤ g := Nat.le_trans HB1.out.size hg
  clear hb hg hc NC AC
  go_wp2_with fail
  rw [← hr, ← hw3] at HI0
  rw [← hr, ← hw3]
  have GGE := Aside0.mk hge
  have RGE := Aside0.mk (show w.heap.size ≤ r by rw [hr]; exact HB2.out.size)
  clear hr hw3 HB2 hge
  go_loopg [26] l.length (fun d v26 w' => ∃ i : Nat, v26 = .int .i64 (i : Int) ∧ Aside0 (i + d = l.length) ∧ Aside0 (Loop w g r A1 c1 bs A c w'))
  case atStart => exact ⟨0, rfl, ⟨by omega⟩, HI0⟩
  case round =>
    clear HI0
    obtain ⟨i, rfl, HD, HINV⟩ := hrel
    have hlen := H60.out
    have hd := HD.out
    cases gk with
    | zero =>
      have e1 : decide (i < l.length) = false := decide_eq_false (by omega)
      obtain ⟨a, e, _, hb⟩ := HINV.out
      have HBE := Aside0.mk hb
      clear hlen hd hb HINV
      go_wp2
      go_ret
      exact ⟨rfl, HBE.out⟩
    | succ d =>
      have hi : i < l.length := by omega
      have e1 : decide (i < l.length) = true := decide_eq_true hi
      have HI := Aside0.mk (show (i : Int) ≤ 60 by omega)
      have hiI : (i : Int) ≤ 60 := by omega
      obtain ⟨a, e, hB, hb⟩ := HINV.out
      obtain ⟨ad, eA, hx⟩ := at_59 HR.out i hi
      subst eA
      obtain ⟨x0, x1⟩ := hx wr hb
      obtain ⟨X, hX⟩ : ∃ X, X = l.getD i z59 := ⟨_, rfl⟩
      rw [← hX] at x0 x1
      obtain ⟨k, n⟩ := X
      simp only at x0 x1
      have BX := Aside0.mk (heap_alloc_new wr (.cells #[.int .i64 k, .int .i64 n] 59))
      have hbx := below_alloc (Below.refl wr.heap.size wr) (.cells #[.int .i64 k, .int .i64 n] 59)
      have RC := Aside0.mk (read_calls (hB.below (W' := (wr.alloc (.cells #[.int .i64 k, .int .i64 n] 59)).drew) (below_drew hbx)) k n)
      have HBD := Aside0.mk (show Below w.heap.size w (wr.alloc (.cells #[.int .i64 k, .int .i64 n] 59)).drew from below_then hb hb.size (below_drew hbx))
      have SZ := Aside0.mk (And.intro (blk_lt hB.boxC) (blk_lt hB.boxR))
      clear hX hx hlen hd hb hB HINV hbx
      go_wp2
      clear x0 x1
      have KC := Aside0.mk (show ∀ W : World, W.heap[wr.heap.size]? = some (.cells #[.int .i64 k, .int .i64 n] 59 (0, 0)) → (W.cell? ⟨wr.heap.size, 0, none⟩ = some (.int .i64 k) ∧ W.cell? ⟨wr.heap.size, 1, none⟩ = some (.int .i64 n)) from fun W hW => ⟨(blk_cell hW 0).trans rfl, (blk_cell hW 1).trans rfl⟩)
      refine wp_region_held_drew (S := fun W => W.cell? ⟨wr.heap.size, 0, none⟩ = some (.int .i64 k) ∧ W.cell? ⟨wr.heap.size, 1, none⟩ = some (.int .i64 n)) (by kernel_rfl) (KC.out _ BX.out) (fun hHeld => ?_)
      refine wpAnyH_take (i := 0) (oi := ?oi0) (v := ?v0) ?hi0 ?hs0 ?hf0 ?hr0 ?hq0 (Or.inl ⟨?hw0, ?hy0⟩) (by assumption) ?rest0
      case hi0 => simp only [List.getElem?_toArray, List.getElem?_cons_succ, List.getElem?_cons_zero]; rfl
      case hs0 => kernel_rfl
      case hf0 => kernel_rfl
      case hr0 => kernel_rfl
      case hq0 => exact fun _ _ _ h => h
      case hw0 => rfl
      case hy0 =>
        intro w hSw
        (try dsimp only at hSw)
        go_simp
        try with_reducible rfl
      (try simp only [Act.put, List.setIfInBounds_toArray, List.set_cons_zero, List.set_cons_succ])
      refine wpAnyH_take (i := 1) (oi := ?oi1) (v := ?v1) ?hi1 ?hs1 ?hf1 ?hr1 ?hq1 (Or.inl ⟨?hw1, ?hy1⟩) (by assumption) ?rest1
      case hi1 => simp only [List.getElem?_toArray, List.getElem?_cons_succ, List.getElem?_cons_zero]; rfl
      case hs1 => kernel_rfl
      case hf1 => kernel_rfl
      case hr1 => kernel_rfl
      case hq1 => exact fun _ _ _ h => h
      case hw1 => rfl
      case hy1 =>
        intro w hSw
        (try dsimp only at hSw)
        go_simp
        try with_reducible rfl
      (try simp only [Act.put, List.setIfInBounds_toArray, List.set_cons_zero, List.set_cons_succ])
      refine wpAnyH_take (i := 2) (oi := ?oi2) (v := ?v2) ?hi2 ?hs2 ?hf2 ?hr2 ?hq2 (Or.inl ⟨?hw2, ?hy2⟩) (by assumption) ?rest2
      case hi2 => simp only [List.getElem?_toArray, List.getElem?_cons_succ, List.getElem?_cons_zero]; rfl
      case hs2 => kernel_rfl
      case hf2 => kernel_rfl
      case hr2 => kernel_rfl
      case hq2 => exact fun _ _ _ h => h
      case hw2 => rfl
      case hy2 =>
        intro w hSw
        (try dsimp only at hSw)
        go_simp
        try with_reducible rfl
      (try simp only [Act.put, List.setIfInBounds_toArray, List.set_cons_zero, List.set_cons_succ])
      refine wpAnyH_ready (rs := [3]) (by kernel_rfl) (by simp) ?_
      refine AllReadyH.cons (o := ?o3) ?ho3 (fun K hK => ?_) AllReadyH.nil
      case ho3 => simp only [List.getElem?_toArray, List.getElem?_cons_succ, List.getElem?_cons_zero]; rfl
      go_simp
      refine RC.out.mono ?_
      rintro e5 w5 ⟨bv, rfl, hs, hg, hB⟩
      have hbv := hs (by simp)
      subst hbv
      obtain ⟨⟨a1, e1⟩, hp⟩ : ∃ p, p = opM k n bs a e := ⟨_, rfl⟩
      rw [← hp] at hB
      simp only at hB
      have q0 := hB.loC
      have q1 := hB.hiC
      have q6 : (bs.length : Int) ≤ 6000 := by have := H6.out; omega
      have q7 : IntKind.i64.wrap ((bs.length : Int) - a1) = (bs.length : Int) - a1 := by simp only [IntKind.wrap_i64]; omega
      have q8 : (((bs.length : Int) - a1) != IntKind.i64.wrap ((bs.length : Int) - a1)) = false := by rw [q7]; simp
      have BX5 := Aside0.mk ((hg.block wr.heap.size (show wr.heap.size < (wr.alloc (.cells #[.int .i64 k, .int .i64 n] 59)).heap.size by rw [World.size_alloc]; omega) (by have := SZ.out.1; omega) (by have := SZ.out.2; omega)).trans BX.out)
      have HB5 := Aside0.mk hB
      have HBW := Aside0.mk (below_two HBD.out hg GGE.out RGE.out HBD.out.size)
      have r1 := hB.rdr.c1
      have r2 := hB.rdr.c2
      have K5 := Aside0.mk (show ∀ W, Below w5.heap.size w5 W → (Below w5.heap.size w5 W ∧ W.cell? ⟨r, 1, none⟩ = some (.int .i64 a1) ∧ W.cell? ⟨r, 2, none⟩ = some (.int .i64 e1)) from fun W hW => ⟨hW, (hW.cell (World.block_lt_of_cell? w5 _ r1)).trans r1, (hW.cell (World.block_lt_of_cell? w5 _ r2)).trans r2⟩)
      have AT := Aside0.mk (At_calls hB.cur)
      have LF := Aside0.mk (Left_calls hB.cur)
      have ER := Aside0.mk (fun (nq : Nat) => Err_calls (hB.below (pw_below_drewN (Below.refl w5.heap.size w5) nq)).cur)
      clear hs hg hB hp r1 r2
      refine hK.out _ _ (KC.out _ BX5.out) (fun hHeld2 => ?_)
      clear hK K hHeld
      have hHeld := hHeld2
      clear hHeld2
      (try simp only [Act.put, List.setIfInBounds_toArray, List.set_cons_zero, List.set_cons_succ])
      refine wpAnyH_mono (S' := fun W => Below w5.heap.size w5 W ∧ W.cell? ⟨r, 1, none⟩ = some (.int .i64 a1) ∧ W.cell? ⟨r, 2, none⟩ = some (.int .i64 e1)) (fun W hW => KC.out W ((hW.1.block _ (blk_lt BX5.out)).trans BX5.out)) _ _ _ _ ?_
      clear hHeld
      have hHeld := K5.out _ (Below.refl _ _)
      refine wpAnyH_take (i := 4) (oi := ?oi4) (v := ?v4) ?hi4 ?hs4 ?hf4 ?hr4 ?hq4 (Or.inl ⟨?hw4, ?hy4⟩) (by assumption) ?rest4
      case hi4 => simp only [List.getElem?_toArray, List.getElem?_cons_succ, List.getElem?_cons_zero]; rfl
      case hs4 => kernel_rfl
      case hf4 => kernel_rfl
      case hr4 => kernel_rfl
      case hq4 => exact fun _ _ _ h => h
      case hw4 => rfl
      case hy4 =>
        intro w hSw
        (try dsimp only at hSw)
        go_simp
        try with_reducible rfl
      (try simp only [Act.put, List.setIfInBounds_toArray, List.set_cons_zero, List.set_cons_succ])
      refine wpAnyH_take (i := 5) (oi := ?oi5) (v := ?v5) ?hi5 ?hs5 ?hf5 ?hr5 ?hq5 (Or.inl ⟨?hw5, ?hy5⟩) (by assumption) ?rest5
      case hi5 => simp only [List.getElem?_toArray, List.getElem?_cons_succ, List.getElem?_cons_zero]; rfl
      case hs5 => kernel_rfl
      case hf5 => kernel_rfl
      case hr5 => kernel_rfl
      case hq5 => exact fun _ _ _ h => h
      case hw5 => rfl
      case hy5 =>
        intro w hSw
        (try dsimp only at hSw)
        go_simp
        try with_reducible rfl
      (try simp only [Act.put, List.setIfInBounds_toArray, List.set_cons_zero, List.set_cons_succ])
      refine wpAnyH_take (i := 6) (oi := ?oi6) (v := ?v6) ?hi6 ?hs6 ?hf6 ?hr6 ?hq6 (Or.inl ⟨?hw6, ?hy6⟩) (by assumption) ?rest6
      case hi6 => simp only [List.getElem?_toArray, List.getElem?_cons_succ, List.getElem?_cons_zero]; rfl
      case hs6 => kernel_rfl
      case hf6 => kernel_rfl
      case hr6 => kernel_rfl
      case hq6 => exact fun _ _ _ h => h
      case hw6 => rfl
      case hy6 =>
        intro w hSw
        (try dsimp only at hSw)
        go_simp
        try with_reducible rfl
      (try simp only [Act.put, List.setIfInBounds_toArray, List.set_cons_zero, List.set_cons_succ])
      refine wpAnyH_take (i := 8) (oi := ?oi8) (v := ?v8) ?hi8 ?hs8 ?hf8 ?hr8 ?hq8 (Or.inl ⟨?hw8, ?hy8⟩) (by assumption) ?rest8
      case hi8 => simp only [List.getElem?_toArray, List.getElem?_cons_succ, List.getElem?_cons_zero]; rfl
      case hs8 => kernel_rfl
      case hf8 => kernel_rfl
      case hr8 => kernel_rfl
      case hq8 => exact fun _ _ _ h => h
      case hw8 => rfl
      case hy8 =>
        intro w hSw
        (try dsimp only at hSw)
        go_simp
        try with_reducible rfl
      (try simp only [Act.put, List.setIfInBounds_toArray, List.set_cons_zero, List.set_cons_succ])
      refine wpAnyH_take (i := 9) (oi := ?oi9) (v := ?v9) ?hi9 ?hs9 ?hf9 ?hr9 ?hq9 (Or.inl ⟨?hw9, ?hy9⟩) (by assumption) ?rest9
      case hi9 => simp only [List.getElem?_toArray, List.getElem?_cons_succ, List.getElem?_cons_zero]; rfl
      case hs9 => kernel_rfl
      case hf9 => kernel_rfl
      case hr9 => kernel_rfl
      case hq9 => exact fun _ _ _ h => h
      case hw9 => rfl
      case hy9 =>
        intro w hSw
        (try dsimp only at hSw)
        go_simp
        try with_reducible rfl
      (try simp only [Act.put, List.setIfInBounds_toArray, List.set_cons_zero, List.set_cons_succ])
      refine wpAnyH_take (i := 10) (oi := ?oi10) (v := ?v10) ?hi10 ?hs10 ?hf10 ?hr10 ?hq10 (Or.inl ⟨?hw10, ?hy10⟩) (by assumption) ?rest10
      case hi10 => simp only [List.getElem?_toArray, List.getElem?_cons_succ, List.getElem?_cons_zero]; rfl
      case hs10 => kernel_rfl
      case hf10 => kernel_rfl
      case hr10 => kernel_rfl
      case hq10 => exact fun _ _ _ h => h
      case hw10 => rfl
      case hy10 =>
        intro w hSw
        (try dsimp only at hSw)
        go_simp
        try with_reducible rfl
      (try simp only [Act.put, List.setIfInBounds_toArray, List.set_cons_zero, List.set_cons_succ])
      refine wpAnyH_take (i := 11) (oi := ?oi11) (v := ?v11) ?hi11 ?hs11 ?hf11 ?hr11 ?hq11 (Or.inl ⟨?hw11, ?hy11⟩) (by assumption) ?rest11
      case hi11 => simp only [List.getElem?_toArray, List.getElem?_cons_succ, List.getElem?_cons_zero]; rfl
      case hs11 => kernel_rfl
      case hf11 => kernel_rfl
      case hr11 => kernel_rfl
      case hq11 => exact fun _ _ _ h => h
      case hw11 => rfl
      case hy11 =>
        intro w hSw
        (try dsimp only at hSw)
        go_simp
        try with_reducible rfl
      (try simp only [Act.put, List.setIfInBounds_toArray, List.set_cons_zero, List.set_cons_succ])
      refine wpAnyH_ready (rs := [7]) (by kernel_rfl) (by simp) ?_
      refine AllReadyH.cons (o := ?o7) ?ho7 (fun K hK => ?_) AllReadyH.nil
      case ho7 => simp only [List.getElem?_toArray, List.getElem?_cons_succ, List.getElem?_cons_zero]; rfl
      go_simp
      refine AT.out.mono ?_
      rintro e6 w6 ⟨rfl, rfl⟩
      refine hK.out _ _ (K5.out _ (Below.refl _ _)) (fun hHeld2 => ?_)
      clear hK K hHeld
      have hHeld := hHeld2
      clear hHeld2
      (try simp only [Act.put, List.setIfInBounds_toArray, List.set_cons_zero, List.set_cons_succ])
      refine wpAnyH_take (i := 12) (oi := ?oi12) (v := ?v12) ?hi12 ?hs12 ?hf12 ?hr12 ?hq12 (Or.inl ⟨?hw12, ?hy12⟩) (by assumption) ?rest12
      case hi12 => simp only [List.getElem?_toArray, List.getElem?_cons_succ, List.getElem?_cons_zero]; rfl
      case hs12 => kernel_rfl
      case hf12 => kernel_rfl
      case hr12 => kernel_rfl
      case hq12 => exact fun _ _ _ h => h
      case hw12 => rfl
      case hy12 =>
        intro w hSw
        (try dsimp only at hSw)
        go_simp
        try with_reducible rfl
      (try simp only [Act.put, List.setIfInBounds_toArray, List.set_cons_zero, List.set_cons_succ])
      refine wpAnyH_take (i := 13) (oi := ?oi13) (v := ?v13) ?hi13 ?hs13 ?hf13 ?hr13 ?hq13 (Or.inl ⟨?hw13, ?hy13⟩) (by assumption) ?rest13
      case hi13 => simp only [List.getElem?_toArray, List.getElem?_cons_succ, List.getElem?_cons_zero]; rfl
      case hs13 => kernel_rfl
      case hf13 => kernel_rfl
      case hr13 => kernel_rfl
      case hq13 => exact fun _ _ _ h => h
      case hw13 => rfl
      case hy13 =>
        intro w hSw
        (try dsimp only at hSw)
        go_simp
        try with_reducible rfl
      (try simp only [Act.put, List.setIfInBounds_toArray, List.set_cons_zero, List.set_cons_succ])
      refine wpAnyH_take (i := 14) (oi := ?oi14) (v := ?v14) ?hi14 ?hs14 ?hf14 ?hr14 ?hq14 (Or.inl ⟨?hw14, ?hy14⟩) (by assumption) ?rest14
      case hi14 => simp only [List.getElem?_toArray, List.getElem?_cons_succ, List.getElem?_cons_zero]; rfl
      case hs14 => kernel_rfl
      case hf14 => kernel_rfl
      case hr14 => kernel_rfl
      case hq14 => exact fun _ _ _ h => h
      case hw14 => rfl
      case hy14 =>
        intro w hSw
        (try dsimp only at hSw)
        go_simp
        try with_reducible rfl
      (try simp only [Act.put, List.setIfInBounds_toArray, List.set_cons_zero, List.set_cons_succ])
      refine wpAnyH_take (i := 15) (oi := ?oi15) (v := ?v15) ?hi15 ?hs15 ?hf15 ?hr15 ?hq15 (Or.inl ⟨?hw15, ?hy15⟩) (by assumption) ?rest15
      case hi15 => simp only [List.getElem?_toArray, List.getElem?_cons_succ, List.getElem?_cons_zero]; rfl
      case hs15 => kernel_rfl
      case hf15 => kernel_rfl
      case hr15 => kernel_rfl
      case hq15 => exact fun _ _ _ h => h
      case hw15 => rfl
      case hy15 =>
        intro w hSw
        (try dsimp only at hSw)
        go_simp
        try with_reducible rfl
      (try simp only [Act.put, List.setIfInBounds_toArray, List.set_cons_zero, List.set_cons_succ])
      refine wpAnyH_take (i := 17) (oi := ?oi17) (v := ?v17) ?hi17 ?hs17 ?hf17 ?hr17 ?hq17 (Or.inl ⟨?hw17, ?hy17⟩) (by assumption) ?rest17
      case hi17 => simp only [List.getElem?_toArray, List.getElem?_cons_succ, List.getElem?_cons_zero]; rfl
      case hs17 => kernel_rfl
      case hf17 => kernel_rfl
      case hr17 => kernel_rfl
      case hq17 => exact fun _ _ _ h => h
      case hw17 => rfl
      case hy17 =>
        intro w hSw
        (try dsimp only at hSw)
        go_simp
        try with_reducible rfl
      (try simp only [Act.put, List.setIfInBounds_toArray, List.set_cons_zero, List.set_cons_succ])
      refine wpAnyH_take (i := 18) (oi := ?oi18) (v := ?v18) ?hi18 ?hs18 ?hf18 ?hr18 ?hq18 (Or.inl ⟨?hw18, ?hy18⟩) (by assumption) ?rest18
      case hi18 => simp only [List.getElem?_toArray, List.getElem?_cons_succ, List.getElem?_cons_zero]; rfl
      case hs18 => kernel_rfl
      case hf18 => kernel_rfl
      case hr18 => kernel_rfl
      case hq18 => exact fun _ _ _ h => h
      case hw18 => rfl
      case hy18 =>
        intro w hSw
        (try dsimp only at hSw)
        go_simp
        try with_reducible rfl
      (try simp only [Act.put, List.setIfInBounds_toArray, List.set_cons_zero, List.set_cons_succ])
      refine wpAnyH_take (i := 19) (oi := ?oi19) (v := ?v19) ?hi19 ?hs19 ?hf19 ?hr19 ?hq19 (Or.inl ⟨?hw19, ?hy19⟩) (by assumption) ?rest19
      case hi19 => simp only [List.getElem?_toArray, List.getElem?_cons_succ, List.getElem?_cons_zero]; rfl
      case hs19 => kernel_rfl
      case hf19 => kernel_rfl
      case hr19 => kernel_rfl
      case hq19 => exact fun _ _ _ h => h
      case hw19 => rfl
      case hy19 =>
        intro w hSw
        (try dsimp only at hSw)
        go_simp
        try with_reducible rfl
      (try simp only [Act.put, List.setIfInBounds_toArray, List.set_cons_zero, List.set_cons_succ])
      refine wpAnyH_take (i := 20) (oi := ?oi20) (v := ?v20) ?hi20 ?hs20 ?hf20 ?hr20 ?hq20 (Or.inl ⟨?hw20, ?hy20⟩) (by assumption) ?rest20
      case hi20 => simp only [List.getElem?_toArray, List.getElem?_cons_succ, List.getElem?_cons_zero]; rfl
      case hs20 => kernel_rfl
      case hf20 => kernel_rfl
      case hr20 => kernel_rfl
      case hq20 => exact fun _ _ _ h => h
      case hw20 => rfl
      case hy20 =>
        intro w hSw
        (try dsimp only at hSw)
        go_simp
        try with_reducible rfl
      (try simp only [Act.put, List.setIfInBounds_toArray, List.set_cons_zero, List.set_cons_succ])
      refine wpAnyH_take (i := 21) (oi := ?oi21) (v := ?v21) ?hi21 ?hs21 ?hf21 ?hr21 ?hq21 (Or.inl ⟨?hw21, ?hy21⟩) (by assumption) ?rest21
      case hi21 => simp only [List.getElem?_toArray, List.getElem?_cons_succ, List.getElem?_cons_zero]; rfl
      case hs21 => kernel_rfl
      case hf21 => kernel_rfl
      case hr21 => kernel_rfl
      case hq21 => exact fun _ _ _ h => h
      case hw21 => rfl
      case hy21 =>
        intro w hSw
        (try dsimp only at hSw)
        go_simp
        try with_reducible rfl
      (try simp only [Act.put, List.setIfInBounds_toArray, List.set_cons_zero, List.set_cons_succ])
      refine wpAnyH_take (i := 22) (oi := ?oi22) (v := ?v22) ?hi22 ?hs22 ?hf22 ?hr22 ?hq22 (Or.inl ⟨?hw22, ?hy22⟩) (by assumption) ?rest22
      case hi22 => simp only [List.getElem?_toArray, List.getElem?_cons_succ, List.getElem?_cons_zero]; rfl
      case hs22 => kernel_rfl
      case hf22 => kernel_rfl
      case hr22 => kernel_rfl
      case hq22 => exact fun _ _ _ h => h
      case hw22 => rfl
      case hy22 =>
        intro w hSw
        (try dsimp only at hSw)
        go_simp
        try with_reducible rfl
      (try simp only [Act.put, List.setIfInBounds_toArray, List.set_cons_zero, List.set_cons_succ])
      refine wpAnyH_take (i := 23) (oi := ?oi23) (v := ?v23) ?hi23 ?hs23 ?hf23 ?hr23 ?hq23 (Or.inl ⟨?hw23, ?hy23⟩) (by assumption) ?rest23
      case hi23 => simp only [List.getElem?_toArray, List.getElem?_cons_succ, List.getElem?_cons_zero]; rfl
      case hs23 => kernel_rfl
      case hf23 => kernel_rfl
      case hr23 => kernel_rfl
      case hq23 => exact fun _ _ _ h => h
      case hw23 => rfl
      case hy23 =>
        intro w hSw
        (try dsimp only at hSw)
        go_simp
        try with_reducible rfl
      (try simp only [Act.put, List.setIfInBounds_toArray, List.set_cons_zero, List.set_cons_succ])
      refine wpAnyH_ready (rs := [16]) (by kernel_rfl) (by simp) ?_
      refine AllReadyH.cons (o := ?o16) ?ho16 (fun K hK => ?_) AllReadyH.nil
      case ho16 => simp only [List.getElem?_toArray, List.getElem?_cons_succ, List.getElem?_cons_zero]; rfl
      go_simp
      refine LF.out.mono ?_
      rintro e6 w6 ⟨rfl, nq, rfl⟩
      refine hK.out _ _ (K5.out _ (pw_below_drewN (Below.refl _ _) _)) (fun hHeld2 => ?_)
      clear hK K hHeld
      have hHeld := hHeld2
      clear hHeld2
      (try simp only [Act.put, List.setIfInBounds_toArray, List.set_cons_zero, List.set_cons_succ])
      refine wpAnyH_take (i := 24) (oi := ?oi24) (v := ?v24) ?hi24 ?hs24 ?hf24 ?hr24 ?hq24 (Or.inl ⟨?hw24, ?hy24⟩) (by assumption) ?rest24
      case hi24 => simp only [List.getElem?_toArray, List.getElem?_cons_succ, List.getElem?_cons_zero]; rfl
      case hs24 => kernel_rfl
      case hf24 => kernel_rfl
      case hr24 => kernel_rfl
      case hq24 => exact fun _ _ _ h => h
      case hw24 => rfl
      case hy24 =>
        intro w hSw
        (try dsimp only at hSw)
        go_simp
        try with_reducible rfl
      (try simp only [Act.put, List.setIfInBounds_toArray, List.set_cons_zero, List.set_cons_succ])
      refine wpAnyH_take (i := 25) (oi := ?oi25) (v := ?v25) ?hi25 ?hs25 ?hf25 ?hr25 ?hq25 (Or.inl ⟨?hw25, ?hy25⟩) (by assumption) ?rest25
      case hi25 => simp only [List.getElem?_toArray, List.getElem?_cons_succ, List.getElem?_cons_zero]; rfl
      case hs25 => kernel_rfl
      case hf25 => kernel_rfl
      case hr25 => kernel_rfl
      case hq25 => exact fun _ _ _ h => h
      case hw25 => rfl
      case hy25 =>
        intro w hSw
        (try dsimp only at hSw)
        go_simp
        try with_reducible rfl
      (try simp only [Act.put, List.setIfInBounds_toArray, List.set_cons_zero, List.set_cons_succ])
      refine wpAnyH_take (i := 26) (oi := ?oi26) (v := ?v26) ?hi26 ?hs26 ?hf26 ?hr26 ?hq26 (Or.inl ⟨?hw26, ?hy26⟩) (by assumption) ?rest26
      case hi26 => simp only [List.getElem?_toArray, List.getElem?_cons_succ, List.getElem?_cons_zero]; rfl
      case hs26 => kernel_rfl
      case hf26 => kernel_rfl
      case hr26 => kernel_rfl
      case hq26 => exact fun _ _ _ h => h
      case hw26 => rfl
      case hy26 =>
        intro w hSw
        (try dsimp only at hSw)
        go_simp
        try with_reducible rfl
      (try simp only [Act.put, List.setIfInBounds_toArray, List.set_cons_zero, List.set_cons_succ])
      refine wpAnyH_take (i := 27) (oi := ?oi27) (v := ?v27) ?hi27 ?hs27 ?hf27 ?hr27 ?hq27 (Or.inl ⟨?hw27, ?hy27⟩) (by assumption) ?rest27
      case hi27 => simp only [List.getElem?_toArray, List.getElem?_cons_succ, List.getElem?_cons_zero]; rfl
      case hs27 => kernel_rfl
      case hf27 => kernel_rfl
      case hr27 => kernel_rfl
      case hq27 => exact fun _ _ _ h => h
      case hw27 => rfl
      case hy27 =>
        intro w hSw
        (try dsimp only at hSw)
        go_simp
        try with_reducible rfl
      (try simp only [Act.put, List.setIfInBounds_toArray, List.set_cons_zero, List.set_cons_succ])
      refine wpAnyH_take (i := 29) (oi := ?oi29) (v := ?v29) ?hi29 ?hs29 ?hf29 ?hr29 ?hq29 (Or.inl ⟨?hw29, ?hy29⟩) (by assumption) ?rest29
      case hi29 => simp only [List.getElem?_toArray, List.getElem?_cons_succ, List.getElem?_cons_zero]; rfl
      case hs29 => kernel_rfl
      case hf29 => kernel_rfl
      case hr29 => kernel_rfl
      case hq29 => exact fun _ _ _ h => h
      case hw29 => rfl
      case hy29 =>
        intro w hSw
        (try dsimp only at hSw)
        go_simp
        try with_reducible rfl
      (try simp only [Act.put, List.setIfInBounds_toArray, List.set_cons_zero, List.set_cons_succ])
      refine wpAnyH_take (i := 30) (oi := ?oi30) (v := ?v30) ?hi30 ?hs30 ?hf30 ?hr30 ?hq30 (Or.inl ⟨?hw30, ?hy30⟩) (by assumption) ?rest30
      case hi30 => simp only [List.getElem?_toArray, List.getElem?_cons_succ, List.getElem?_cons_zero]; rfl
      case hs30 => kernel_rfl
      case hf30 => kernel_rfl
      case hr30 => kernel_rfl
      case hq30 => exact fun _ _ _ h => h
      case hw30 => rfl
      case hy30 =>
        intro w hSw
        (try dsimp only at hSw)
        go_simp
        try with_reducible rfl
      (try simp only [Act.put, List.setIfInBounds_toArray, List.set_cons_zero, List.set_cons_succ])
      refine wpAnyH_take (i := 31) (oi := ?oi31) (v := ?v31) ?hi31 ?hs31 ?hf31 ?hr31 ?hq31 (Or.inl ⟨?hw31, ?hy31⟩) (by assumption) ?rest31
      case hi31 => simp only [List.getElem?_toArray, List.getElem?_cons_succ, List.getElem?_cons_zero]; rfl
      case hs31 => kernel_rfl
      case hf31 => kernel_rfl
      case hr31 => kernel_rfl
      case hq31 => exact fun _ _ _ h => h
      case hw31 => rfl
      case hy31 =>
        intro w hSw
        (try dsimp only at hSw)
        go_simp
        try with_reducible rfl
      (try simp only [Act.put, List.setIfInBounds_toArray, List.set_cons_zero, List.set_cons_succ])
      refine wpAnyH_take (i := 32) (oi := ?oi32) (v := ?v32) ?hi32 ?hs32 ?hf32 ?hr32 ?hq32 (Or.inl ⟨?hw32, ?hy32⟩) (by assumption) ?rest32
      case hi32 => simp only [List.getElem?_toArray, List.getElem?_cons_succ, List.getElem?_cons_zero]; rfl
      case hs32 => kernel_rfl
      case hf32 => kernel_rfl
      case hr32 => kernel_rfl
      case hq32 => exact fun _ _ _ h => h
      case hw32 => rfl
      case hy32 =>
        intro w hSw
        (try dsimp only at hSw)
        go_simp
        try with_reducible rfl
      (try simp only [Act.put, List.setIfInBounds_toArray, List.set_cons_zero, List.set_cons_succ])
      refine wpAnyH_ready (rs := [28]) (by kernel_rfl) (by simp) ?_
      refine AllReadyH.cons (o := ?o28) ?ho28 (fun K hK => ?_) AllReadyH.nil
      case ho28 => simp only [List.getElem?_toArray, List.getElem?_cons_succ, List.getElem?_cons_zero]; rfl
      go_simp
      refine (ER.out nq).mono ?_
      rintro e6 w6 ⟨rfl, rfl⟩
      refine hK.out _ _ (K5.out _ (pw_below_drewN (Below.refl _ _) _)) (fun hHeld2 => ?_)
      clear hK K hHeld
      have hHeld := hHeld2
      clear hHeld2
      (try simp only [Act.put, List.setIfInBounds_toArray, List.set_cons_zero, List.set_cons_succ])
      refine wpAnyH_take (i := 33) (oi := ?oi33) (v := ?v33) ?hi33 ?hs33 ?hf33 ?hr33 ?hq33 (Or.inl ⟨?hw33, ?hy33⟩) (by assumption) ?rest33
      case hi33 => simp only [List.getElem?_toArray, List.getElem?_cons_succ, List.getElem?_cons_zero]; rfl
      case hs33 => kernel_rfl
      case hf33 => kernel_rfl
      case hr33 => kernel_rfl
      case hq33 => exact fun _ _ _ h => h
      case hw33 => rfl
      case hy33 =>
        intro w hSw
        (try dsimp only at hSw)
        go_simp
        try with_reducible rfl
      (try simp only [Act.put, List.setIfInBounds_toArray, List.set_cons_zero, List.set_cons_succ])
      refine wpAnyH_take (i := 34) (oi := ?oi34) (v := ?v34) ?hi34 ?hs34 ?hf34 ?hr34 ?hq34 (Or.inl ⟨?hw34, ?hy34⟩) (by assumption) ?rest34
      case hi34 => simp only [List.getElem?_toArray, List.getElem?_cons_succ, List.getElem?_cons_zero]; rfl
      case hs34 => kernel_rfl
      case hf34 => kernel_rfl
      case hr34 => kernel_rfl
      case hq34 => exact fun _ _ _ h => h
      case hw34 => rfl
      case hy34 =>
        intro w hSw
        (try dsimp only at hSw)
        go_simp
        try with_reducible rfl
      (try simp only [Act.put, List.setIfInBounds_toArray, List.set_cons_zero, List.set_cons_succ])
      refine wpAnyH_done (by kernel_rfl) ?_ _
      go_wp2
      go_roundg d
      case measure => omega
      case rel => exact ⟨i + 1, by push_cast; rfl, ⟨by have := HD.out; omega⟩, ⟨⟨a1, e1, HB5.out.below (pw_below_drewN (Below.refl _ _) _), pw_below_drewN HBW.out _⟩⟩⟩
end Go.Proofs.Ytjhdnlgbboboiaa.Scan

/- Of any bytes, asked for anything in any order, what is read, and the first failure, are the document's: the row, for every input. -/
namespace Go.Proofs.Ytjhdnlgbboboiaa.scanReads
open Go.ChangeShapes Go.WideShapes Go.ChangeAt Go.RowKit
set_option linter.unusedVariables false
theorem own : ownKnob Try.prog.godebug = none := by kernel_rfl
theorem laidOut : laidOutB Try.prog = true := by kernel_rfl
set_option maxRecDepth 100000 in
theorem lifted (os : Os) (started : os.Started) (H : Type) (enc : TypeId × Value → H) :
    ReturnsInHanded {} Try.checked os 11 .any (Rows.scanReadsSpec.pre6 enc Try.prog Try.f11 Rows.scanReadsRow.domain false) (Rows.scanReadsSpec.post enc Try.prog Try.f11 false true false false) := by
  refine returnsInHanded_of_change_sized (C := Try.checked) own started (by kernel_rfl) Try.func11
    (ChangeSpec.witness6 (enc := enc) (C := Try.checked) false ⟨#[], #[.slice none 0 0, .slice none 0 0], []⟩ 8 (by kernel_rfl) (by kernel_rfl) (by kernel_rfl) (by kernel_rfl)) ?_
  intro W base args ds gs before hval0 hW hcnd hsz0 _
  have hval : ∀ (j : Nat) t v, Try.f11.params[j]? = some t → args[j]? = some v → Value.okWide Try.prog W .any base t v := hval0
  have hW' := hW
  obtain ⟨p, q, hA0, hV, rfl, hfz, hnd⟩ := hW
  have hA : DataW.TrodAll enc Try.prog W 0 (fun _ => true) true Try.f11.params.toList args.toList ds p := hA0
  rw [Try.params11] at hA hval
  obtain ⟨v0, vs0, d0, ds0, p0, q0, hargs, rfl, rfl, h0, r0⟩ := trodAll_cons hA
  obtain ⟨v1, vs1, d1, ds1, p1, q1, rfl, rfl, rfl, h1, r1⟩ := trodAll_cons r0
  obtain ⟨rfl, rfl, rfl⟩ := trodAll_nil r1
  obtain rfl : args = #[v0, v1] := by cases args; simp_all
  obtain ⟨rfl, rfl⟩ := trodVars_none hV
  obtain ⟨a0, len0, cap0, rfl⟩ := okWide_slice Try.underlying22 (hval 0 22 v0 rfl rfl)
  have k0 := h0
  have lt0 : ∀ x ∈ p0, x.block < W.heap.size := by obtain ⟨m, hm⟩ := k0; exact DataW.trod_lt m _ _ _ hm
  obtain ⟨a1, len1, cap1, rfl⟩ := okWide_slice Try.underlying52 (hval 1 52 v1 rfl rfl)
  have k1 := h1
  have lt1 : ∀ x ∈ p1, x.block < W.heap.size := by obtain ⟨m, hm⟩ := k1; exact DataW.trod_lt m _ _ _ hm
  obtain ⟨fuel0, hf0⟩ := h0
  obtain ⟨l0, ⟨A0, c0, e0, hc0, hr0⟩, ok0⟩ := (ScanOpn.opens_slice Try.underlying22 (by kernel_rfl) (by kernel_rfl) fun n hn => ScanOpn.opens_int8 n Try.underlying5 (by kernel_rfl)).2 _ _ hf0
  simp only [Value.cells, List.cons.injEq, and_true, Value.slice.injEq] at e0
  obtain ⟨rfl, rfl, rfl⟩ := e0
  obtain ⟨fuel1, hf1⟩ := h1
  obtain ⟨l1, ⟨A1, c1, e1, hc1, hr1⟩, ok1⟩ := (ScanOpn.opens_slice Try.underlying52 (by kernel_rfl) (by kernel_rfl) fun n hn => ScanOpn.open59 n).2 _ _ hf1
  simp only [Value.cells, List.cons.injEq, and_true, Value.slice.injEq] at e1
  obtain ⟨rfl, rfl, rfl⟩ := e1
  clear hA0 hval0 hsz0
  refine (Scan.ScanReads_walk W _ _ l0 hc0 hr0 ok0.2 _ _ l1 hc1 hr1).mono fun e W' ⟨he, bel⟩ => ?_
  subst he
  exact ⟨_, rfl, _, _, _, [], _, [], hW', trodAll_mk1 (shut_bool Try.underlying4 _), (trodAll_cons_mk (Below.trod laidOut (by kernel_rfl) (of_decide_eq_true (by kernel_rfl)) k0 bel lt0) (trodAll_cons_mk (Below.trod laidOut (by kernel_rfl) (of_decide_eq_true (by kernel_rfl)) k1 bel lt1) trodAll_mk0)), rfl, bel.frame _, fun h => by cases h⟩
theorem over : Rows.scanReadsRow.holds Try.pinned (OpenSpec.ofChange Rows.scanReadsSpec) :=
  OpenClaim.holds_of_wide 11 Try.f11 rfl rfl rfl rfl rfl rfl rfl ⟨rfl, rfl, rfl, rfl, rfl⟩ rfl rfl rfl rfl rfl (by kernel_rfl) Try.func11 (by kernel_rfl)
    (of_decide_eq_true (by kernel_rfl)) (by unfold Func.isWrapper; first | (rw [if_pos (by decide +kernel)]; kernel_rfl) | (rw [if_neg (by decide +kernel)]; exact ⟨rfl, rfl⟩))
    (fun os started H enc _ => lifted os started H enc)
theorem proved : Rows.ScanReadsSaid := over
#print axioms proved
end Go.Proofs.Ytjhdnlgbboboiaa.scanReads
namespace Go.Proofs.Ytjhdnlgbboboiaa
/-- The row, under a short name, for the claim. -/
theorem scanReads_holds : Rows.ScanReadsSaid := scanReads.proved
end Go.Proofs.Ytjhdnlgbboboiaa
