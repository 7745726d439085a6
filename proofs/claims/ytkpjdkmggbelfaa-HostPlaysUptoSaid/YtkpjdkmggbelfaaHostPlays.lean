/- The law HostPlays: it returns true. -/
import Derived.Test.YtkpjdkmggbelfaaHostStep
import Derived.Outline
import Derived.Deep.RegionHeld
namespace Go.Proofs.Ytkpjdkmggbelfaa.Host
open Go.RowKit Go.Proofs.YtkpjdkmggbelfaaW.PrintWords Go.Proofs.YtkpjdkmggbelfaaW.PrintLast Go.Proofs.YtkpjdkmggbelfaaW.PrintMore Go.Proofs.Ytkpjdkmggbelfaa.Mem Go.Proofs.Ytkpjdkmggbelfaa.PHostPlays
set_option linter.unusedVariables false
set_option linter.unusedSimpArgs false
/-- How much there is. -/
structure Lim (N : Nat) (an : List S109) (gs : List Bool) (cs : List S156) (AN : List S112) (GS : List Bool) (CS : List S164) : Prop where
  la : AN.length ≤ N * 1048576
  lg : GS.length ≤ N * 1048576
  lc : CS.length ≤ N * 1048576
  xa : ∀ x ∈ an, x.f1.length ≤ 1048576
  xc : ∀ x ∈ cs, x.f1.length ≤ 1048576
theorem Agree.len {an : List S109} {gs : List Bool} {cs : List S156} {AN : List S112} {GS : List Bool} {CS : List S164} {na ng : Nat} (h : Agree an gs cs AN GS CS na ng) : an.length = AN.length - na ∧ gs.length = GS.length - ng ∧ CS.length = cs.length := by
  refine ⟨?_, ?_, ?_⟩
  · have := congrArg List.length h.a; simpa using this.symm
  · have := congrArg List.length h.g; simpa using this.symm
  · have := congrArg List.length h.c; simpa using this
theorem Lim.bound {N : Nat} {an : List S109} {gs : List Bool} {cs : List S156} {AN : List S112} {GS : List Bool} {CS : List S164} {na ng : Nat} (h : Lim N an gs cs AN GS CS) (hN : N ≤ 1048577) (ag : Agree an gs cs AN GS CS na ng) : Bound an gs cs := by
  obtain ⟨e1, e2, e3⟩ := ag.len
  have := h.la
  have := h.lg
  have := h.lc
  exact ⟨by omega, by omega, by omega, fun x hx => by have := h.xa x hx; omega, fun x hx => by have := h.xc x hx; omega⟩
theorem lim_add {a b N : Nat} (h : a ≤ N * 1048576) (hb : b ≤ 1048576) : a + b ≤ (N + 1) * 1048576 := by
  rw [Nat.add_mul, Nat.one_mul]
  exact Nat.add_le_add h hb
theorem lim_up {a N : Nat} (h : a ≤ N * 1048576) : a ≤ (N + 1) * 1048576 := lim_add (b := 0) h (Nat.zero_le _)
/-- What may be told of a step. -/
structure Fit (X : S84) : Prop where
  l1 : X.f1.f0.length ≤ 1048576
  l2 : X.f1.f1.length ≤ 1048576
  l9 : X.f2.f6.length ≤ 1048576
  x1 : ∀ x ∈ X.f1.f0, x.f1.length ≤ 1048576
  x9 : ∀ x ∈ X.f2.f6, x.f1.length ≤ 1048576
section
variable {N : Nat} {an l1 : List S109} {gs l2 : List Bool} {cs l9 : List S156} {AN : List S112} {GS : List Bool} {CS : List S164} {na ng : Nat}
theorem Agree.fed (h : Agree an gs cs AN GS CS na ng) : Agree (an ++ l1) (gs ++ l2) cs (AN ++ l1.map cvA) (GS ++ l2) CS na ng :=
  ⟨by rw [List.drop_append_of_le_length h.la, h.a, List.map_append], by rw [List.drop_append_of_le_length h.lg, h.g], h.c, by have := h.la; rw [List.length_append]; omega, by have := h.lg; rw [List.length_append]; omega⟩
theorem Lim.fed (h : Lim N an gs cs AN GS CS) (h1 : l1.length ≤ 1048576) (h2 : l2.length ≤ 1048576) (hx : ∀ x ∈ l1, x.f1.length ≤ 1048576) : Lim (N + 1) (an ++ l1) (gs ++ l2) cs (AN ++ l1.map cvA) (GS ++ l2) CS := by
  exact ⟨by rw [List.length_append, List.length_map]; exact lim_add h.la h1, by rw [List.length_append]; exact lim_add h.lg h2, lim_up h.lc, fun x hx2 => (List.mem_append.1 hx2).elim (h.xa x) (hx x), h.xc⟩
theorem Agree.done (h : Agree an gs cs AN GS CS na ng) (a b : Nat) (ha : a ≤ an.length) (hb : b ≤ gs.length) : Agree (an.drop a) (gs.drop b) (cs ++ l9) AN GS (CS ++ l9.map cvC) (na + a) (ng + b) := by
  obtain ⟨e1, e2, e3⟩ := h.len
  have := h.la
  have := h.lg
  exact ⟨by rw [← List.drop_drop, h.a, List.map_drop], by rw [← List.drop_drop, h.g], by rw [h.c, List.map_append], by omega, by omega⟩
theorem Lim.done (h : Lim N an gs cs AN GS CS) (a b : Nat) (h9 : l9.length ≤ 1048576) (hx : ∀ x ∈ l9, x.f1.length ≤ 1048576) : Lim (N + 1) (an.drop a) (gs.drop b) (cs ++ l9) AN GS (CS ++ l9.map cvC) := by
  exact ⟨lim_up h.la, lim_up h.lg, by rw [List.length_append, List.length_map]; exact lim_add h.lc h9, fun x hx2 => h.xa x (List.mem_of_mem_drop hx2), fun x hx2 => (List.mem_append.1 hx2).elim (h.xc x) (hx x)⟩
theorem Lim.more (h : Lim N an gs cs AN GS CS) : Lim (N + 1) an gs cs AN GS CS := by
  exact ⟨lim_up h.la, lim_up h.lg, lim_up h.lc, h.xa, h.xc⟩
end
/-- The state at a round's head. -/
def PInv (w wr : World) (g1 g2 : Nat) (N : Nat) : Prop := ∃ an gs cs AN GS CS na ng, PairQ w.heap.size wr g1 g2 an gs cs AN GS CS na ng (fun _ => False) ∧ Agree an gs cs AN GS CS na ng ∧ Lim N an gs cs AN GS CS ∧ Below w.heap.size w wr
theorem pinv_new {w wr : World} {g1 : Nat} {tag : Nat → Nat} (h : Qs w.heap.size wr g1 tag [] [] [] (.slice none 0 0) (.slice none 0 0) (.slice none 0 0)) (hb : Below w.heap.size w wr) : PInv w (wr.alloc (.cells #[.slice none 0 0, .slice none 0 0, .int .i64 0, .int .i64 0, .slice none 0 0] 74)) g1 wr.heap.size 0 := by
  have hba := below_alloc (Below.refl wr.heap.size wr) (.cells #[.slice none 0 0, .slice none 0 0, .int .i64 0, .int .i64 0, .slice none 0 0] 74)
  refine ⟨[], [], [], [], [], [], 0, 0, ⟨tag, _, _, _, fun k => if k = wr.heap.size then 1 else 0, .slice none 0 0, .slice none 0 0, .slice none 0 0, h.below hba, ⟨fun k hk => ?_, heap_alloc_new wr _, by simp, (fun b hb => by cases hb), (fun b hb => by cases hb), (fun b hb => by cases hb), Row.nil _ _ _ _, Row.nil _ _ _ _, Row.nil _ _ _ _⟩, fun k hk => ?_, fun k hk => hk.elim⟩, ⟨rfl, rfl, rfl, Nat.le_refl _, Nat.le_refl _⟩, ⟨by simp, by simp, by simp, by simp, by simp⟩, hb.alloc hb.size _⟩
  · by_cases e2 : k = wr.heap.size
    · subst e2
      exact ⟨h.low, by rw [World.size_alloc]; omega⟩
    · simp [e2] at hk
  · have := (h.tagged k hk).2
    exact if_neg (by omega)
theorem heap84 : Kd.Heap k84 := Kd.heap_iso _ (Kd.heap_pair (Kd.heap_int _) (Kd.heap_pair (Kd.heap_iso _ (Kd.heap_pair (Kd.heap_slice _ heap109) (Kd.heap_slice _ Kd.heap_bool)))
  (Kd.heap_iso _ (Kd.heap_pair (Kd.heap_int _) (Kd.heap_pair (Kd.heap_slice _ (Kd.heap_int _)) (Kd.heap_pair (Kd.heap_int _) (Kd.heap_pair (Kd.heap_int _) (Kd.heap_pair (Kd.heap_int _) (Kd.heap_pair (Kd.heap_int _) (Kd.heap_slice _ heap156))))))))))
theorem at_F84 {w : World} {A : Option Addr} {n : Nat} {xs : List S84} (h : Kd.C k84 w A n xs) (i : Int) (h0 : 0 ≤ i) (h1 : i < n) : ∃ ad A1 c1 A2 c2 A4 c4 A9 c9, A = some ad ∧
    (∀ W : World, Below w.heap.size w W → W.cell? (ad.add (i.toNat * 10)) = some (.int .i64 (rd_T84 xs i).f0) ∧ W.cell? ⟨(ad.add (i.toNat * 10)).block, (ad.add (i.toNat * 10)).off + 1, none⟩ = some (.slice A1 (rd_T84 xs i).f1.f0.length c1) ∧ W.cell? ⟨(ad.add (i.toNat * 10)).block, (ad.add (i.toNat * 10)).off + 2, none⟩ = some (.slice A2 (rd_T84 xs i).f1.f1.length c2) ∧ W.cell? ⟨(ad.add (i.toNat * 10)).block, (ad.add (i.toNat * 10)).off + 3, none⟩ = some (.int .i64 (rd_T84 xs i).f2.f0) ∧ W.cell? ⟨(ad.add (i.toNat * 10)).block, (ad.add (i.toNat * 10)).off + 4, none⟩ = some (.slice A4 (rd_T84 xs i).f2.f1.length c4) ∧ W.cell? ⟨(ad.add (i.toNat * 10)).block, (ad.add (i.toNat * 10)).off + 5, none⟩ = some (.int .i64 (rd_T84 xs i).f2.f2) ∧ W.cell? ⟨(ad.add (i.toNat * 10)).block, (ad.add (i.toNat * 10)).off + 6, none⟩ = some (.int .i64 (rd_T84 xs i).f2.f3) ∧ W.cell? ⟨(ad.add (i.toNat * 10)).block, (ad.add (i.toNat * 10)).off + 7, none⟩ = some (.int .i64 (rd_T84 xs i).f2.f4) ∧ W.cell? ⟨(ad.add (i.toNat * 10)).block, (ad.add (i.toNat * 10)).off + 8, none⟩ = some (.int .i64 (rd_T84 xs i).f2.f5) ∧ W.cell? ⟨(ad.add (i.toNat * 10)).block, (ad.add (i.toNat * 10)).off + 9, none⟩ = some (.slice A9 (rd_T84 xs i).f2.f6.length c9)) ∧
    Kd.F k109 w (fun k => k < w.heap.size) A1 (rd_T84 xs i).f1.f0.length (rd_T84 xs i).f1.f0 ∧ Kd.F Kd.bool w (fun k => k < w.heap.size) A2 (rd_T84 xs i).f1.f1.length (rd_T84 xs i).f1.f1 ∧ Kd.F k156 w (fun k => k < w.heap.size) A9 (rd_T84 xs i).f2.f6.length (rd_T84 xs i).f2.f6 := by
  obtain ⟨ad, c, e, _, hK, hc0, _⟩ := Kd.F_get (Kd.C_F heap84 h) z84 i h0 h1
  have hc : ∀ W : World, Below w.heap.size w W → ∀ j u, c[j]? = some u → W.cell? (ad.add (i.toNat * 10 + j)) = some u := fun W hW j u hu => pw_cell_below hW (hc0 j u hu)
  obtain ⟨A1, c1, A2, c2, A4, c4, A9, c9, rfl, l1, g1, l2, g2, l4, g4, l9, g9⟩ := k84_openF hK
  exact ⟨ad, A1, c1, A2, c2, A4, c4, A9, c9, e, fun W hW => ⟨hc W hW 0 _ rfl, by rw [← add_field _ _ 1 (by omega)]; exact hc W hW 1 _ rfl, by rw [← add_field _ _ 2 (by omega)]; exact hc W hW 2 _ rfl, by rw [← add_field _ _ 3 (by omega)]; exact hc W hW 3 _ rfl, by rw [← add_field _ _ 4 (by omega)]; exact hc W hW 4 _ rfl, by rw [← add_field _ _ 5 (by omega)]; exact hc W hW 5 _ rfl, by rw [← add_field _ _ 6 (by omega)]; exact hc W hW 6 _ rfl, by rw [← add_field _ _ 7 (by omega)]; exact hc W hW 7 _ rfl, by rw [← add_field _ _ 8 (by omega)]; exact hc W hW 8 _ rfl, by rw [← add_field _ _ 9 (by omega)]; exact hc W hW 9 _ rfl⟩, g1, g2, g9⟩
set_option maxRecDepth 100000 in
set_option maxHeartbeats 16000000 in
theorem plays_walk (w : World) (A : Option Addr) (c : Nat) (l : List S84) (hl : l.length ≤ c) (hr : Kd.C k84 w A l.length l) (hmax : l.length ≤ 1048576) (hfit : ∀ x ∈ l, Fit x) : Calls Try.prog 6 #[.slice A l.length c] w (Told w) := by
  obtain ⟨k, r, hf⟩ := few_ends l 40 (by omega) (fun x hx => ⟨by have := (hfit x hx).l1; omega, by have := (hfit x hx).l9; omega⟩)
  have FC := Aside0.mk (fun (W : World) (hW : Below w.heap.size w W) => trunnionlaw32_few.calls k A c l 40 r W (Kd.C_below hr hW) hl hf)
  have AC := Aside0.mk (awake_calls w)
  have HR := Aside0.mk hr
  have HM := Aside0.mk hmax
  have HFT := Aside0.mk hfit
  have hu84 := Try.underlying84
  have hu77 := Try.underlying77
  have hu82 := Try.underlying82
  clear hl hr hmax hfit hf
  go_enter Try.func6, Try.ntmps6
  go_wp2_with fail
  refine AC.out.mono ?_
  rintro e w1 ⟨rfl, hb⟩
  have HB1 := Aside0.mk hb
  clear hb
  go_wp2_with fail
  refine (FC.out w1 HB1.out).mono ?_
  rintro e w2 ⟨rfl, hb⟩
  have HB2 := Aside0.mk (below_then HB1.out HB1.out.size hb)
  clear hb
  cases r with
  | false =>
    go_wp2
    go_ret
    exact ⟨rfl, HB2.out⟩
  | true =>
    clear FC AC HB1
    have NC := Aside0.mk (New_calls w.heap.size w2 HB2.out.size)
    go_wp2_with (first
      | (go_at_call 23
         (with_reducible refine NC.out.mono ?_)
         rintro e w3 ⟨g1, tag, rfl, hq, hg, ht, hb⟩
         have HI0 := Aside0.mk (pinv_new hq (below_then HB2.out HB2.out.size hb))
         clear hq hg ht hb)
      | fail)
    obtain ⟨g2, hg2⟩ : ∃ g2, g2 = w3.heap.size := ⟨_, rfl⟩
    obtain ⟨w4, hw4⟩ : ∃ w4, w4 = w3.alloc (.cells #[.slice none 0 0, .slice none 0 0, .int .i64 0, .int .i64 0, .slice none 0 0] 74) := ⟨_, rfl⟩
    rw [← hg2, ← hw4] at HI0
    rw [← hg2, ← hw4]
    clear hg2 hw4 NC HB2
    go_loopg [17] l.length (fun d v17 w' => ∃ i : Nat, v17 = .int .i64 (i : Int) ∧ Aside0 (i + d = l.length) ∧ Aside0 (PInv w w' g1 g2 i))
    case atStart => exact ⟨0, rfl, ⟨by omega⟩, HI0⟩
    case round =>
      clear HI0
      obtain ⟨i, rfl, HD, HINV⟩ := hrel
      have hlen := HM.out
      have hd := HD.out
      cases gk with
      | zero =>
        have e1 : decide (i < l.length) = false := decide_eq_false (by omega)
        obtain ⟨an, gs, cs, AN, GS, CS, na, ng, _, _, _, hb⟩ := HINV.out
        have HB := Aside0.mk hb
        clear hlen hd hb
        go_wp2
        go_ret
        exact ⟨rfl, HB.out⟩
      | succ d =>
        have hi : i < l.length := by omega
        have HI := Aside0.mk (show i ≤ 1048575 by omega)
        have e1 : decide (i < l.length) = true := decide_eq_true hi
        have hiI : (i : Int) ≤ 1048575 := by omega
        obtain ⟨an, gs, cs, AN, GS, CS, na, ng, hpq, hag, hlm, hb⟩ := HINV.out
        obtain ⟨ad, A1, c1, A2, c2, A4, c4, A9, c9, eA, hx, q1, q2, q9⟩ := at_F84 HR.out (i : Int) (by omega) (by omega)
        subst eA
        have hft := HFT.out (rd_T84 l (i : Int)) (by rw [show rd_T84 l (i : Int) = l[i] from getD_at hi]; exact List.getElem_mem hi)
        obtain ⟨x0, x1, x2, x3, x4, x5, x6, x7, x8, x9⟩ := hx wr hb
        obtain ⟨X, hX⟩ : ∃ X, X = rd_T84 l (i : Int) := ⟨_, rfl⟩
        rw [← hX] at x0 x1 x2 x3 x4 x5 x6 x7 x8 x9 q1 q2 q9 hft
        simp only [Int.toNat_natCast] at x0 x1 x2 x3 x4 x5 x6 x7 x8 x9
        have HPQ := Aside0.mk hpq
        have AG := Aside0.mk hag
        have LM := Aside0.mk hlm
        have HB := Aside0.mk hb
        have FT := Aside0.mk hft
        have Q1 := Aside0.mk q1
        have Q2 := Aside0.mk q2
        have Q9 := Aside0.mk q9
        clear hpq hag hlm hb hx hft q1 q2 q9 hX HINV hlen hd
        by_cases k1 : X.f0 = 1
        · rw [k1] at x0
          clear k1
          have BX := Aside0.mk (heap_alloc_new wr (.cells #[.int .i64 1, .slice A1 X.f1.f0.length c1, .slice A2 X.f1.f1.length c2, .int .i64 X.f2.f0, .slice A4 X.f2.f1.length c4, .int .i64 X.f2.f2, .int .i64 X.f2.f3, .int .i64 X.f2.f4, .int .i64 X.f2.f5, .slice A9 X.f2.f6.length c9] 84))
          have hbx := below_alloc (Below.refl wr.heap.size wr) (.cells #[.int .i64 1, .slice A1 X.f1.f0.length c1, .slice A2 X.f1.f1.length c2, .int .i64 X.f2.f0, .slice A4 X.f2.f1.length c4, .int .i64 X.f2.f2, .int .i64 X.f2.f3, .int .i64 X.f2.f4, .int .i64 X.f2.f5, .slice A9 X.f2.f6.length c9] 84)
          have HP1 := Aside0.mk ((HPQ.out.below hbx).mono (Q := fun k => k = wr.heap.size) (fun k hk => .inr (by subst hk; rw [World.size_alloc]; omega)))
          have HB1 := Aside0.mk (below_then HB.out HB.out.size hbx)
          clear hbx
          have FDC := Aside0.mk (p_feed HP1.out A1 c1 X.f1.f0 (by have := AG.out.len.1; have := LM.out.la; have := FT.out.l1; have := HI.out; omega) (by have := FT.out.l1; omega) (Kd.F_step Q1.out fun k hk hlt => HB1.out.block k hk) (fun x hx => by have := FT.out.x1 x hx; omega) A2 c2 X.f1.f1 (by have := AG.out.len.2.1; have := LM.out.lg; have := FT.out.l2; have := HI.out; omega) (by have := FT.out.l2; omega) (Kd.F_step Q2.out fun k hk hlt => HB1.out.block k hk))
          go_wp2_with (first
            | (go_at_call 24
               refine FDC.out.mono ?_
               rintro e w5 ⟨rfl, hp, hb5, hk5⟩
               have HP5 := Aside0.mk hp
               have HB5 := Aside0.mk (HB1.out.trans hb5)
               have BX5 := Aside0.mk ((hk5 _ rfl).trans BX.out)
               clear hp hb5 hk5)
            | fail)
          clear x0 x1 x2 x3 x4 x5 x6 x7 x8 x9 FDC HP1 HB1
          obtain ⟨t1, va, vg, vc, t2, wa, wg, wc, qa, qb, qc, qd⟩ := HP5.out
          obtain ⟨Aw, cw, rfl⟩ := qb.ra.one
          have hda := below_drew (Below.refl w5.heap.size w5)
          have z0 : w5.cell? ⟨g2, 0, none⟩ = some (.slice Aw AN.length cw) := (blk_cell qb.box 0).trans rfl
          have zf : w5.frozen? ⟨g2, 0, none⟩ = false := blk_frozen qb.box 0
          have b1 : w5.cell? ⟨wr.heap.size, 1, none⟩ = some (.slice A1 X.f1.f0.length c1) := (blk_cell BX5.out 1).trans rfl
          have CW := Aside0.mk (fun (W : World) (hW : Below w5.heap.size w5 W) => (show W.cell? ⟨g2, 0, none⟩ = some (.slice Aw AN.length cw) ∧ W.frozen? ⟨g2, 0, none⟩ = false ∧ W.cell? ⟨wr.heap.size, 1, none⟩ = some (.slice A1 X.f1.f0.length c1) from ⟨(blk_cell ((qb.below hW).box) 0).trans rfl, blk_frozen (qb.below hW).box 0, (blk_cell ((hW.block _ (blk_lt BX5.out)).trans BX5.out) 1).trans rfl⟩))
          obtain ⟨rows, hrl, hL, hf⟩ := qb.ra
          have ANC := Aside0.mk (Ans_calls w.heap.size w5.drew A1 c1 X.f1.f0 (below_drew HB5.out).size (by have := FT.out.l1; omega) (Kd.F_step Q1.out fun k hk hlt => (below_drew HB5.out).block k hk))
          have QA := Aside0.mk qa
          have QB := Aside0.mk qb
          have QC := Aside0.mk qc
          have QD := Aside0.mk qd
          have HL := Aside0.mk hL
          have HRL := Aside0.mk hrl
          have HRF := Aside0.mk hf
          have HDA := Aside0.mk hda
          have HLA := Aside0.mk (show AN.length ≤ 1100000000000 from by have := LM.out.la; have := HI.out; omega)
          clear qa qb qc qd hL hrl hf hda HP5
          go_region_law (first
            | (refine loose_append_step rfl (.tmp 33) (.tmp 37) 70 112 (.agg #[.bool false, .slice none 0 0]) 2 32 rfl Try.underlying70 info112 rfl (by decide) (by decide) (.slice Aw AN.length cw) AN.length rows.flatten A3 X.f1.f0.length c3 news.flatten (by simp [Act.eval, Act.put]) (by simp [Act.eval, Act.put]) ?cO ?cR ?cL ?_
               case cO => exact HL.out.move fun k hk => HB6.out.block k (HL.out.lt k hk)
               case cR => exact NR.out
               case cL => have := HLA.out; have := FT.out.l1; omega
               intro v1 w7 h1 h2 h3
               obtain ⟨x2, y2, rfl⟩ : ∃ x2 y2, v1 = .slice x2 (AN.length + X.f1.f0.length) y2 := by
                 rcases h1.2 with ⟨e, h0⟩ | ⟨gg, cap, cur, rfl, _⟩
                 · exact ⟨none, 0, by rw [e, h0]⟩
                 · exact ⟨_, _, rfl⟩
               have hbx : w7.heap[g2]? = _ := ((h2.block g2 (by have := HB6.out.size; have := blk_lt QB.out.box; omega) fun e => by have := QB.out.at_ g2 e.symm; have := QB.out.gtag; omega).trans (HB6.out.block g2 (blk_lt QB.out.box))).trans QB.out.box
               have a0 := (blk_cell hbx 0).trans rfl
               have b0 := blk_frozen hbx 0
               have G1 := Aside0.mk h1
               have G2 := Aside0.mk h2
               have G3 := Aside0.mk h3
               clear h1 h2 h3 hbx)
            | (go_simp
               go_wp2_with (first
                 | (go_at_call 25
                    refine ANC.out.mono ?_
                    rintro e1 w6 ⟨A3, c3, rfl, hinv⟩
                    obtain ⟨news, hnl, hraw, hnf⟩ := hinv.row.raw
                    rw [List.length_map] at hraw
                    have HB6 := Aside0.mk (below_then HDA.out (Nat.le_refl _) hinv.below)
                    have NR := Aside0.mk hraw
                    have NL := Aside0.mk hnl
                    have NF := Aside0.mk hnf
                    obtain ⟨m0, m1, m2⟩ := CW.out _ HB6.out
                    clear hinv hraw hnl hnf)
                 | fail)))
          all_goals
            have hR := Row.appended (d := k112) (e := 112) (xs := AN) (ys := X.f1.f0.map cvA) (ok := fun k => k < w.heap.size ∨ t2 k = 3 ∨ w5.heap.size ≤ k ∧ k < w6.heap.size) (W := w6) (w1 := w7) (v := .slice Aw AN.length cw) (v1 := .slice x2 (AN.length + X.f1.f0.length) y2) (rows := rows) (news := news) HRL.out
              (fun j x c hx hc => Kd.FK_mono (Kd.FK_step (HRF.out j x c hx hc) fun k _ hlt => HB6.out.block k hlt) fun k hk => hk.imp id .inl) NL.out
              (fun j x c hx hc => Kd.FK_mono (NF.out j x c hx hc) fun k hk => .inl hk)
              (by rw [List.length_map]; exact G1.out) G2.out (fun k hk e => by
                have h2 := QB.out.at_ k e.symm
                have h3 := QB.out.tagged k (by omega)
                rcases hk with hk | hk | hk <;> omega)
            have fin := QB.out.set_a HB6.out hR G2.out (fun b hb => by
              rcases G3.out with e | ⟨b', e, hle⟩
              · exact .inl (e.symm.trans hb)
              · rw [e] at hb
                injection hb with hb
                exact .inr (by omega))
            obtain ⟨hp8, hb8, hk8⟩ := PairQ.ref_after QA.out QB.out QC.out QD.out fin
            have HB8 := Aside0.mk (HB5.out.trans hb8)
            have BX8 := Aside0.mk ((hk8 _ rfl).trans BX5.out)
            have HP8 := Aside0.mk hp8
            clear hR fin hp8 hb8 hk8 a0 b0 m0 m1 m2 z0 zf b1 CW ANC
            try clear ax
            obtain ⟨w8, hw8⟩ : ∃ w8, w8 = w7.setCell ⟨g2, 0, none⟩ (.slice x2 (AN.length + X.f1.f0.length) y2) := ⟨_, rfl⟩
            rw [← hw8] at HB8 BX8 HP8
            rw [← hw8]
            clear hw8 G1 G2 G3 HB6 NR NL NF QA QB QC QD HL HRL HRF HDA
            obtain ⟨t1, va, vg, vc, t3, wa, wg, wc, qa, qb, qc, qd⟩ := HP8.out
            obtain ⟨Aw2, cw2, rfl⟩ := qb.rg.one
            have hda := below_drew (Below.refl w8.heap.size w8)
            have z0 : w8.cell? ⟨g2, 1, none⟩ = some (.slice Aw2 GS.length cw2) := (blk_cell qb.box 1).trans rfl
            have zf : w8.frozen? ⟨g2, 1, none⟩ = false := blk_frozen qb.box 1
            have b2 : w8.cell? ⟨wr.heap.size, 2, none⟩ = some (.slice A2 X.f1.f1.length c2) := (blk_cell BX8.out 2).trans rfl
            obtain ⟨rows2, hrl, hL, hf⟩ := qb.rg
            obtain ⟨news2, hnl, hraw, hnf⟩ := row_raw (Kd.F_step Q2.out fun k hk hlt => HB8.out.block k hk)
            have NR := Aside0.mk (show RawSrc w8.drew 1 A2 X.f1.f1.length news2.flatten from hraw)
            have NL := Aside0.mk hnl
            have NF := Aside0.mk hnf
            have QA := Aside0.mk qa
            have QB := Aside0.mk qb
            have QC := Aside0.mk qc
            have QD := Aside0.mk qd
            have HL := Aside0.mk (show Loose w8.drew 4 1 (.slice Aw2 GS.length cw2) GS.length rows2.flatten from hL)
            have HRL := Aside0.mk hrl
            have HRF := Aside0.mk hf
            have HLG := Aside0.mk (show GS.length ≤ 1100000000000 from by have := LM.out.lg; have := HI.out; omega)
            clear qa qb qc qd hL hrl hf hda HP8 hnl hraw hnf
            go_wp2
            go_region_law (first
              | (refine loose_append_step rfl (.tmp 45) (.tmp 48) 71 4 (.bool false) 1 1 rfl Try.underlying71 info4 rfl (by decide) (by decide) (.slice Aw2 GS.length cw2) GS.length rows2.flatten A2 X.f1.f1.length c2 news2.flatten (by simp [Act.eval, Act.put]) (by simp [Act.eval, Act.put]) HL.out NR.out ?cL ?_
                 case cL => have := HLG.out; have := FT.out.l2; omega
                 intro v1 w7b h1 h2 h3
                 obtain ⟨x2b, y2b, rfl⟩ : ∃ x2 y2, v1 = .slice x2 (GS.length + X.f1.f1.length) y2 := by
                   rcases h1.2 with ⟨e, h0⟩ | ⟨gg, cap, cur, rfl, _⟩
                   · exact ⟨none, 0, by rw [e, h0]⟩
                   · exact ⟨_, _, rfl⟩
                 have hbx : w7b.heap[g2]? = _ := (h2.block g2 (blk_lt QB.out.box) fun e => by have := QB.out.gt_ g2 e.symm; have := QB.out.gtag; omega).trans QB.out.box
                 have a0 := (blk_cell hbx 1).trans rfl
                 have b0 := blk_frozen hbx 1
                 have G1 := Aside0.mk h1
                 have G2 := Aside0.mk h2
                 have G3 := Aside0.mk h3
                 clear h1 h2 h3 hbx)
              | fail)
            all_goals
              have hR := Row.appended (d := Kd.bool) (e := 4) (xs := GS) (ys := X.f1.f1) (ok := fun k => k < w.heap.size ∨ t3 k = 3) (W := w8.drew) (w1 := w7b) (v := .slice Aw2 GS.length cw2) (v1 := .slice x2b (GS.length + X.f1.f1.length) y2b) (rows := rows2) (news := news2) HRL.out
                (fun j x c hx hc => Kd.FK_step (HRF.out j x c hx hc) fun k _ hlt => rfl) NL.out
                (fun j x c hx hc => Kd.FK_mono (Kd.FK_step (NF.out j x c hx hc) fun k _ hlt => rfl) fun k hk => .inl hk)
                G1.out G2.out (fun k hk e => by
                  have h2 := QB.out.gt_ k e.symm
                  have h3 := QB.out.tagged k (by omega)
                  rcases hk with hk | hk <;> omega)
              have fin := (QB.out.below (below_drew (Below.refl _ _))).set_g (Below.refl _ _) (hR.mono fun k hk => hk.imp id .inl) G2.out (fun b hb => by
                rcases G3.out with e | ⟨b', e, hle⟩
                · exact .inl (e.symm.trans hb)
                · rw [e] at hb
                  injection hb with hb
                  exact .inr (by omega))
              obtain ⟨hp9, hb9, hk9⟩ := PairQ.ref_after (QA.out.below (below_drew (Below.refl _ _))) (QB.out.below (below_drew (Below.refl _ _))) QC.out (fun k hk => QD.out k hk) fin
              have HBF := Aside0.mk ((below_drew HB8.out).trans hb9)
              have HPF := Aside0.mk hp9
              clear hR fin hp9 hb9 hk9 a0 b0 z0 zf b2
              obtain ⟨w8b, hw8⟩ : ∃ w8b, w8b = w7b.setCell ⟨g2, 1, none⟩ (.slice x2b (GS.length + X.f1.f1.length) y2b) := ⟨_, rfl⟩
              rw [← hw8] at HBF HPF
              rw [← hw8]
              clear hw8 G1 G2 G3 NR NL NF QA QB QC QD HL HRL HRF BX8 HB8
              have AGF := Aside0.mk (AG.out.fed (l1 := X.f1.f0) (l2 := X.f1.f1))
              have LMF := Aside0.mk (LM.out.fed (l1 := X.f1.f0) (l2 := X.f1.f1) FT.out.l1 FT.out.l2 FT.out.x1)
              have LK := Aside0.mk (p_like HPF.out AGF.out (LMF.out.bound (by have := HI.out; omega) AGF.out))
              go_wp2_with (first
                | (go_at_call 30
                   refine LK.out.mono ?_
                   rintro e w9 ⟨rfl, hb9⟩
                   have HB9 := Aside0.mk hb9
                   clear hb9)
                | fail)
              go_roundg d
              case measure => omega
              case rel =>
                have hh : wrap64 ((i : Int) + 1) = ((i + 1 : Nat) : Int) := by have := HI.out; unfold wrap64; omega
                exact ⟨i + 1, by first | (rw [hh]) | (push_cast; rfl), ⟨by have := HD.out; omega⟩, ⟨_, _, _, _, _, _, _, _, (HPF.out.below HB9.out).mono (fun k hk => hk.elim), AGF.out, LMF.out, below_then HBF.out HBF.out.size HB9.out⟩⟩
        by_cases k2 : X.f0 = 2
        · rw [k2] at x0
          clear k2 k1
          have BX := Aside0.mk (heap_alloc_new wr (.cells #[.int .i64 2, .slice A1 X.f1.f0.length c1, .slice A2 X.f1.f1.length c2, .int .i64 X.f2.f0, .slice A4 X.f2.f1.length c4, .int .i64 X.f2.f2, .int .i64 X.f2.f3, .int .i64 X.f2.f4, .int .i64 X.f2.f5, .slice A9 X.f2.f6.length c9] 84))
          have hbx := below_alloc (Below.refl wr.heap.size wr) (.cells #[.int .i64 2, .slice A1 X.f1.f0.length c1, .slice A2 X.f1.f1.length c2, .int .i64 X.f2.f0, .slice A4 X.f2.f1.length c4, .int .i64 X.f2.f2, .int .i64 X.f2.f3, .int .i64 X.f2.f4, .int .i64 X.f2.f5, .slice A9 X.f2.f6.length c9] 84)
          have HP1 := Aside0.mk ((HPQ.out.below hbx).mono (Q := fun k => k = wr.heap.size) (fun k hk => .inr (by subst hk; rw [World.size_alloc]; omega)))
          have HB1 := Aside0.mk (below_then HB.out HB.out.size hbx)
          clear hbx
          obtain ⟨r, an2, gs2, cs2, CS2, na2, ng2, hdon, hrdn, hor⟩ := done_pair (base := w.heap.size) (g1 := g1) (g2 := g2) AG.out (LM.out.bound (by have := HI.out; omega) AG.out) (by have := LM.out.la; have := HI.out; omega) (by have := LM.out.lg; have := HI.out; omega) (by have := LM.out.lc; have := HI.out; omega) X.f2.f0 A4 X.f2.f1.length c4 X.f2.f2 X.f2.f3 X.f2.f4 X.f2.f5 A9 c9 X.f2.f6 FT.out.l9 FT.out.x9
          have AGN := Aside0.mk (show Agree an2 gs2 cs2 AN GS CS2 na2 ng2 by
            rcases hor with ⟨rfl, rfl, rfl, rfl, rfl, rfl⟩ | ⟨a, b, ha, hb, rfl, rfl, rfl, rfl, rfl, rfl⟩
            · exact AG.out
            · exact AG.out.done a b ha hb)
          have LMN := Aside0.mk (show Lim (i + 1) an2 gs2 cs2 AN GS CS2 by
            rcases hor with ⟨rfl, rfl, rfl, rfl, rfl, rfl⟩ | ⟨a, b, ha, hb, rfl, rfl, rfl, rfl, rfl, rfl⟩
            · exact LM.out.more
            · exact LM.out.done a b FT.out.l9 FT.out.x9)
          have DON := Aside0.mk hdon
          have RDN := Aside0.mk hrdn
          clear hor hdon hrdn
          go_wp2
          clear x0 x1 x2 x3 x4 x5 x6 x7 x8 x9
          obtain ⟨W1, hW1⟩ : ∃ W1, W1 = wr.alloc (.cells #[.int .i64 2, .slice A1 X.f1.f0.length c1, .slice A2 X.f1.f1.length c2, .int .i64 X.f2.f0, .slice A4 X.f2.f1.length c4, .int .i64 X.f2.f2, .int .i64 X.f2.f3, .int .i64 X.f2.f4, .int .i64 X.f2.f5, .slice A9 X.f2.f6.length c9] 84) := ⟨_, rfl⟩
          rw [← hW1] at BX HP1 HB1
          rw [← hW1]
          clear hW1
          have KC := Aside0.mk (show ∀ W : World, W.heap[wr.heap.size]? = some (.cells #[.int .i64 2, .slice A1 X.f1.f0.length c1, .slice A2 X.f1.f1.length c2, .int .i64 X.f2.f0, .slice A4 X.f2.f1.length c4, .int .i64 X.f2.f2, .int .i64 X.f2.f3, .int .i64 X.f2.f4, .int .i64 X.f2.f5, .slice A9 X.f2.f6.length c9] 84 (0, 0)) → (W.cell? ⟨wr.heap.size, 3, none⟩ = some (.int .i64 X.f2.f0) ∧ W.cell? ⟨wr.heap.size, 4, none⟩ = some (.slice A4 X.f2.f1.length c4) ∧ W.cell? ⟨wr.heap.size, 5, none⟩ = some (.int .i64 X.f2.f2) ∧ W.cell? ⟨wr.heap.size, 6, none⟩ = some (.int .i64 X.f2.f3) ∧ W.cell? ⟨wr.heap.size, 7, none⟩ = some (.int .i64 X.f2.f4) ∧ W.cell? ⟨wr.heap.size, 8, none⟩ = some (.int .i64 X.f2.f5) ∧ W.cell? ⟨wr.heap.size, 9, none⟩ = some (.slice A9 X.f2.f6.length c9)) from fun W hW => ⟨(blk_cell hW 3).trans rfl, (blk_cell hW 4).trans rfl, (blk_cell hW 5).trans rfl, (blk_cell hW 6).trans rfl, (blk_cell hW 7).trans rfl, (blk_cell hW 8).trans rfl, (blk_cell hW 9).trans rfl⟩)
          have BX1 := Aside0.mk (show W1.drew.heap[wr.heap.size]? = _ from BX.out)
          have HPd := Aside0.mk ((HP1.out.below (below_drew (Below.refl _ _))).mono (Q := fun k => k = wr.heap.size) fun k hk => .inl hk)
          have HBd := Aside0.mk (below_drew HB1.out)
          clear BX HP1 HB1
          refine wp_region_held_drew (S := fun W => W.cell? ⟨wr.heap.size, 3, none⟩ = some (.int .i64 X.f2.f0) ∧ W.cell? ⟨wr.heap.size, 4, none⟩ = some (.slice A4 X.f2.f1.length c4) ∧ W.cell? ⟨wr.heap.size, 5, none⟩ = some (.int .i64 X.f2.f2) ∧ W.cell? ⟨wr.heap.size, 6, none⟩ = some (.int .i64 X.f2.f3) ∧ W.cell? ⟨wr.heap.size, 7, none⟩ = some (.int .i64 X.f2.f4) ∧ W.cell? ⟨wr.heap.size, 8, none⟩ = some (.int .i64 X.f2.f5) ∧ W.cell? ⟨wr.heap.size, 9, none⟩ = some (.slice A9 X.f2.f6.length c9)) (by kernel_rfl) (KC.out _ BX1.out) (fun hHeld => ?_)
          refine wpAnyH_take (i := 0) (oi := ?oi0) (v := ?v0) ?hi0 ?hs0 ?hf0 ?hr0 ?hq0 (Or.inl ⟨?hw0, ?hy0⟩) (by assumption) ?rest0
          case hi0 => simp only [List.getElem?_toArray, List.getElem?_cons_succ, List.getElem?_cons_zero]; rfl
          case hs0 => kernel_rfl
          case hf0 => kernel_rfl
          case hr0 => kernel_rfl
          case hq0 => exact fun _ _ _ h => h
          case hw0 => rfl
          case hy0 =>
            intro w hSw
            (try dsimp only at hSw)
            go_simp
            try with_reducible rfl
          (try simp only [Act.put, List.setIfInBounds_toArray, List.set_cons_zero, List.set_cons_succ])
          refine wpAnyH_take (i := 1) (oi := ?oi1) (v := ?v1) ?hi1 ?hs1 ?hf1 ?hr1 ?hq1 (Or.inl ⟨?hw1, ?hy1⟩) (by assumption) ?rest1
          case hi1 => simp only [List.getElem?_toArray, List.getElem?_cons_succ, List.getElem?_cons_zero]; rfl
          case hs1 => kernel_rfl
          case hf1 => kernel_rfl
          case hr1 => kernel_rfl
          case hq1 => exact fun _ _ _ h => h
          case hw1 => rfl
          case hy1 =>
            intro w hSw
            (try dsimp only at hSw)
            go_simp
            try with_reducible rfl
          (try simp only [Act.put, List.setIfInBounds_toArray, List.set_cons_zero, List.set_cons_succ])
          refine wpAnyH_take (i := 2) (oi := ?oi2) (v := ?v2) ?hi2 ?hs2 ?hf2 ?hr2 ?hq2 (Or.inl ⟨?hw2, ?hy2⟩) (by assumption) ?rest2
          case hi2 => simp only [List.getElem?_toArray, List.getElem?_cons_succ, List.getElem?_cons_zero]; rfl
          case hs2 => kernel_rfl
          case hf2 => kernel_rfl
          case hr2 => kernel_rfl
          case hq2 => exact fun _ _ _ h => h
          case hw2 => rfl
          case hy2 =>
            intro w hSw
            (try dsimp only at hSw)
            go_simp
            try with_reducible rfl
          (try simp only [Act.put, List.setIfInBounds_toArray, List.set_cons_zero, List.set_cons_succ])
          refine wpAnyH_take (i := 4) (oi := ?oi4) (v := ?v4) ?hi4 ?hs4 ?hf4 ?hr4 ?hq4 (Or.inl ⟨?hw4, ?hy4⟩) (by assumption) ?rest4
          case hi4 => simp only [List.getElem?_toArray, List.getElem?_cons_succ, List.getElem?_cons_zero]; rfl
          case hs4 => kernel_rfl
          case hf4 => kernel_rfl
          case hr4 => kernel_rfl
          case hq4 => exact fun _ _ _ h => h
          case hw4 => rfl
          case hy4 =>
            intro w hSw
            (try dsimp only at hSw)
            go_simp
            try with_reducible rfl
          (try simp only [Act.put, List.setIfInBounds_toArray, List.set_cons_zero, List.set_cons_succ])
          refine wpAnyH_take (i := 5) (oi := ?oi5) (v := ?v5) ?hi5 ?hs5 ?hf5 ?hr5 ?hq5 (Or.inl ⟨?hw5, ?hy5⟩) (by assumption) ?rest5
          case hi5 => simp only [List.getElem?_toArray, List.getElem?_cons_succ, List.getElem?_cons_zero]; rfl
          case hs5 => kernel_rfl
          case hf5 => kernel_rfl
          case hr5 => kernel_rfl
          case hq5 => exact fun _ _ _ h => h
          case hw5 => rfl
          case hy5 =>
            intro w hSw
            (try dsimp only at hSw)
            go_simp
            try with_reducible rfl
          (try simp only [Act.put, List.setIfInBounds_toArray, List.set_cons_zero, List.set_cons_succ])
          refine wpAnyH_take (i := 6) (oi := ?oi6) (v := ?v6) ?hi6 ?hs6 ?hf6 ?hr6 ?hq6 (Or.inl ⟨?hw6, ?hy6⟩) (by assumption) ?rest6
          case hi6 => simp only [List.getElem?_toArray, List.getElem?_cons_succ, List.getElem?_cons_zero]; rfl
          case hs6 => kernel_rfl
          case hf6 => kernel_rfl
          case hr6 => kernel_rfl
          case hq6 => exact fun _ _ _ h => h
          case hw6 => rfl
          case hy6 =>
            intro w hSw
            (try dsimp only at hSw)
            go_simp
            try with_reducible rfl
          (try simp only [Act.put, List.setIfInBounds_toArray, List.set_cons_zero, List.set_cons_succ])
          refine wpAnyH_take (i := 7) (oi := ?oi7) (v := ?v7) ?hi7 ?hs7 ?hf7 ?hr7 ?hq7 (Or.inl ⟨?hw7, ?hy7⟩) (by assumption) ?rest7
          case hi7 => simp only [List.getElem?_toArray, List.getElem?_cons_succ, List.getElem?_cons_zero]; rfl
          case hs7 => kernel_rfl
          case hf7 => kernel_rfl
          case hr7 => kernel_rfl
          case hq7 => exact fun _ _ _ h => h
          case hw7 => rfl
          case hy7 =>
            intro w hSw
            (try dsimp only at hSw)
            go_simp
            try with_reducible rfl
          (try simp only [Act.put, List.setIfInBounds_toArray, List.set_cons_zero, List.set_cons_succ])
          refine wpAnyH_take (i := 8) (oi := ?oi8) (v := ?v8) ?hi8 ?hs8 ?hf8 ?hr8 ?hq8 (Or.inl ⟨?hw8, ?hy8⟩) (by assumption) ?rest8
          case hi8 => simp only [List.getElem?_toArray, List.getElem?_cons_succ, List.getElem?_cons_zero]; rfl
          case hs8 => kernel_rfl
          case hf8 => kernel_rfl
          case hr8 => kernel_rfl
          case hq8 => exact fun _ _ _ h => h
          case hw8 => rfl
          case hy8 =>
            intro w hSw
            (try dsimp only at hSw)
            go_simp
            try with_reducible rfl
          (try simp only [Act.put, List.setIfInBounds_toArray, List.set_cons_zero, List.set_cons_succ])
          refine wpAnyH_take (i := 9) (oi := ?oi9) (v := ?v9) ?hi9 ?hs9 ?hf9 ?hr9 ?hq9 (Or.inl ⟨?hw9, ?hy9⟩) (by assumption) ?rest9
          case hi9 => simp only [List.getElem?_toArray, List.getElem?_cons_succ, List.getElem?_cons_zero]; rfl
          case hs9 => kernel_rfl
          case hf9 => kernel_rfl
          case hr9 => kernel_rfl
          case hq9 => exact fun _ _ _ h => h
          case hw9 => rfl
          case hy9 =>
            intro w hSw
            (try dsimp only at hSw)
            go_simp
            try with_reducible rfl
          (try simp only [Act.put, List.setIfInBounds_toArray, List.set_cons_zero, List.set_cons_succ])
          refine wpAnyH_take (i := 10) (oi := ?oi10) (v := ?v10) ?hi10 ?hs10 ?hf10 ?hr10 ?hq10 (Or.inl ⟨?hw10, ?hy10⟩) (by assumption) ?rest10
          case hi10 => simp only [List.getElem?_toArray, List.getElem?_cons_succ, List.getElem?_cons_zero]; rfl
          case hs10 => kernel_rfl
          case hf10 => kernel_rfl
          case hr10 => kernel_rfl
          case hq10 => exact fun _ _ _ h => h
          case hw10 => rfl
          case hy10 =>
            intro w hSw
            (try dsimp only at hSw)
            go_simp
            try with_reducible rfl
          (try simp only [Act.put, List.setIfInBounds_toArray, List.set_cons_zero, List.set_cons_succ])
          refine wpAnyH_take (i := 11) (oi := ?oi11) (v := ?v11) ?hi11 ?hs11 ?hf11 ?hr11 ?hq11 (Or.inl ⟨?hw11, ?hy11⟩) (by assumption) ?rest11
          case hi11 => simp only [List.getElem?_toArray, List.getElem?_cons_succ, List.getElem?_cons_zero]; rfl
          case hs11 => kernel_rfl
          case hf11 => kernel_rfl
          case hr11 => kernel_rfl
          case hq11 => exact fun _ _ _ h => h
          case hw11 => rfl
          case hy11 =>
            intro w hSw
            (try dsimp only at hSw)
            go_simp
            try with_reducible rfl
          (try simp only [Act.put, List.setIfInBounds_toArray, List.set_cons_zero, List.set_cons_succ])
          refine wpAnyH_take (i := 12) (oi := ?oi12) (v := ?v12) ?hi12 ?hs12 ?hf12 ?hr12 ?hq12 (Or.inl ⟨?hw12, ?hy12⟩) (by assumption) ?rest12
          case hi12 => simp only [List.getElem?_toArray, List.getElem?_cons_succ, List.getElem?_cons_zero]; rfl
          case hs12 => kernel_rfl
          case hf12 => kernel_rfl
          case hr12 => kernel_rfl
          case hq12 => exact fun _ _ _ h => h
          case hw12 => rfl
          case hy12 =>
            intro w hSw
            (try dsimp only at hSw)
            go_simp
            try with_reducible rfl
          (try simp only [Act.put, List.setIfInBounds_toArray, List.set_cons_zero, List.set_cons_succ])
          refine wpAnyH_take (i := 13) (oi := ?oi13) (v := ?v13) ?hi13 ?hs13 ?hf13 ?hr13 ?hq13 (Or.inl ⟨?hw13, ?hy13⟩) (by assumption) ?rest13
          case hi13 => simp only [List.getElem?_toArray, List.getElem?_cons_succ, List.getElem?_cons_zero]; rfl
          case hs13 => kernel_rfl
          case hf13 => kernel_rfl
          case hr13 => kernel_rfl
          case hq13 => exact fun _ _ _ h => h
          case hw13 => rfl
          case hy13 =>
            intro w hSw
            (try dsimp only at hSw)
            go_simp
            try with_reducible rfl
          (try simp only [Act.put, List.setIfInBounds_toArray, List.set_cons_zero, List.set_cons_succ])
          refine wpAnyH_ready (rs := [3]) (by kernel_rfl) (by simp) ?_
          refine AllReadyH.cons (o := ?o3) ?ho3 (fun K hK => ?_) AllReadyH.nil
          case ho3 => simp only [List.getElem?_toArray, List.getElem?_cons_succ, List.getElem?_cons_zero]; rfl
          go_simp
          refine (DON.out _ _ _ _ _ _ _ (Kd.F_step Q9.out fun k hk hlt => HBd.out.block k hk) HPd.out).mono ?_
          rintro e5 va ⟨rfl, hp, hb, hk⟩
          have HPa := Aside0.mk hp
          have HBa := Aside0.mk (HBd.out.trans hb)
          have BXa := Aside0.mk ((hk _ rfl).trans BX1.out)
          clear hp hb hk
          refine hK.out _ _ (KC.out _ BXa.out) (fun hHeld2 => ?_)
          clear hK K hHeld
          have hHeld := hHeld2
          clear hHeld2
          (try simp only [Act.put, List.setIfInBounds_toArray, List.set_cons_zero, List.set_cons_succ])
          refine wpAnyH_ready (rs := [14]) (by kernel_rfl) (by simp) ?_
          refine AllReadyH.cons (o := ?o14) ?ho14 (fun K hK => ?_) AllReadyH.nil
          case ho14 => simp only [List.getElem?_toArray, List.getElem?_cons_succ, List.getElem?_cons_zero]; rfl
          go_simp
          refine (Cal_calls w.heap.size _ A9 c9 X.f2.f6 HBa.out.size (by have := FT.out.l9; omega) (Kd.F_step Q9.out fun k hk hlt => HBa.out.block k hk)).mono ?_
          rintro e5 vb ⟨A3, c3, rfl, hinv⟩
          have HPb := Aside0.mk ((HPa.out.below hinv.below).mono (Q := fun k => k = wr.heap.size ∨ (Value.slice A3 X.f2.f6.length c3).ownBlock = some k) (fun k hk => hk.elim (fun e => .inl e) fun e => .inr ⟨hinv.own k e, hinv.row.lt k e⟩))
          have HBb := Aside0.mk (below_then HBa.out HBa.out.size hinv.below)
          have BXb := Aside0.mk ((hinv.below.block _ (blk_lt BXa.out)).trans BXa.out)
          have CKb := Aside0.mk (show CalOk w.heap.size vb A3 c3 X.f2.f6 (fun k => k = wr.heap.size ∨ (Value.slice A3 X.f2.f6.length c3).ownBlock = some k) from ⟨hinv.row, fun k hk => .inr hk⟩)
          clear hinv
          refine hK.out _ _ (KC.out _ BXb.out) (fun hHeld2 => ?_)
          clear hK K hHeld
          have hHeld := hHeld2
          clear hHeld2
          (try simp only [Act.put, List.setIfInBounds_toArray, List.set_cons_zero, List.set_cons_succ])
          refine wpAnyH_ready (rs := [15]) (by kernel_rfl) (by simp) ?_
          refine AllReadyH.cons (o := ?o15) ?ho15 (fun K hK => ?_) AllReadyH.nil
          case ho15 => simp only [List.getElem?_toArray, List.getElem?_cons_succ, List.getElem?_cons_zero]; rfl
          go_simp
          refine (RDN.out _ _ _ _ _ _ _ HPb.out CKb.out).mono ?_
          rintro e5 vc ⟨rfl, hp, hb, hk⟩
          have HPc := Aside0.mk hp
          have HBc := Aside0.mk (HBb.out.trans hb)
          have BXc := Aside0.mk ((hk _ (.inl rfl)).trans BXb.out)
          clear hp hb hk
          refine hK.out _ _ (KC.out _ BXc.out) (fun hHeld2 => ?_)
          clear hK K hHeld
          have hHeld := hHeld2
          clear hHeld2
          (try simp only [Act.put, List.setIfInBounds_toArray, List.set_cons_zero, List.set_cons_succ])
          refine wpAnyH_take (i := 16) (oi := ?oi16) (v := ?v16) ?hi16 ?hs16 ?hf16 ?hr16 ?hq16 (Or.inl ⟨?hw16, ?hy16⟩) (by assumption) ?rest16
          case hi16 => simp only [List.getElem?_toArray, List.getElem?_cons_succ, List.getElem?_cons_zero]; rfl
          case hs16 => kernel_rfl
          case hf16 => kernel_rfl
          case hr16 => kernel_rfl
          case hq16 => exact fun _ _ _ h => h
          case hw16 => rfl
          case hy16 =>
            intro w hSw
            (try dsimp only at hSw)
            go_simp
            try with_reducible rfl
          (try simp only [Act.put, List.setIfInBounds_toArray, List.set_cons_zero, List.set_cons_succ])
          refine wpAnyH_done (by kernel_rfl) ?_ _
          clear hHeld
          have HPF := HPc
          have HBF := HBc
          have AGF := Aside0.mk (AGN.out)
          have LMF := Aside0.mk (LMN.out)
          have LK := Aside0.mk (p_like HPF.out AGF.out (LMF.out.bound (by have := HI.out; omega) AGF.out))
          go_wp2_with (first
            | (go_at_call 30
               refine LK.out.mono ?_
               rintro e w9 ⟨rfl, hb9⟩
               have HB9 := Aside0.mk hb9
               clear hb9)
            | fail)
          go_roundg d
          case measure => omega
          case rel =>
            have hh : wrap64 ((i : Int) + 1) = ((i + 1 : Nat) : Int) := by have := HI.out; unfold wrap64; omega
            exact ⟨i + 1, by first | (rw [hh]) | (push_cast; rfl), ⟨by have := HD.out; omega⟩, ⟨_, _, _, _, _, _, _, _, (HPF.out.below HB9.out).mono (fun k hk => hk.elim), AGF.out, LMF.out, below_then HBF.out HBF.out.size HB9.out⟩⟩
        by_cases k3 : X.f0 = 3
        · rw [k3] at x0
          clear k3 k2 k1
          have BX := Aside0.mk (heap_alloc_new wr (.cells #[.int .i64 3, .slice A1 X.f1.f0.length c1, .slice A2 X.f1.f1.length c2, .int .i64 X.f2.f0, .slice A4 X.f2.f1.length c4, .int .i64 X.f2.f2, .int .i64 X.f2.f3, .int .i64 X.f2.f4, .int .i64 X.f2.f5, .slice A9 X.f2.f6.length c9] 84))
          have hbx := below_alloc (Below.refl wr.heap.size wr) (.cells #[.int .i64 3, .slice A1 X.f1.f0.length c1, .slice A2 X.f1.f1.length c2, .int .i64 X.f2.f0, .slice A4 X.f2.f1.length c4, .int .i64 X.f2.f2, .int .i64 X.f2.f3, .int .i64 X.f2.f4, .int .i64 X.f2.f5, .slice A9 X.f2.f6.length c9] 84)
          have HP1 := Aside0.mk ((HPQ.out.below hbx).mono (Q := fun k => k = wr.heap.size) (fun k hk => .inr (by subst hk; rw [World.size_alloc]; omega)))
          have HB1 := Aside0.mk (below_then HB.out HB.out.size hbx)
          clear hbx
          have CC := Aside0.mk (p_clear HP1.out)
          go_wp2_with (first
            | (go_at_call 29
               refine CC.out.mono ?_
               rintro e w5 ⟨rfl, hp, hb5, hk5⟩
               obtain ⟨t1, va, vg, vc, t2, wa, wg, wc, qa, qb, qc, qd⟩ := hp
               have a0 := (blk_cell qb.box 4).trans rfl
               have b0 := blk_frozen qb.box 4
               have HB5 := Aside0.mk (HB1.out.trans hb5)
               have QA := Aside0.mk qa
               have QB := Aside0.mk qb
               have QC := Aside0.mk qc
               have QD := Aside0.mk qd
               clear hb5 hk5 qa qb qc qd)
            | fail)
          clear x0 x1 x2 x3 x4 x5 x6 x7 x8 x9 HP1 HB1 CC a0 b0
          obtain ⟨hp9, hb9, hk9⟩ := PairQ.ref_after QA.out QB.out QC.out QD.out (QB.out.set_c (Below.refl _ _) (Row.nil _ _ _ _) ⟨rfl, rfl, rfl, Nat.le_refl _, fun _ _ _ => rfl⟩ (fun b hb => by cases hb))
          have HBF := Aside0.mk (HB5.out.trans hb9)
          have HPF := Aside0.mk hp9
          clear hp9 hb9 hk9 QA QB QC QD HB5
          have AGF := Aside0.mk ((⟨AG.out.a, AG.out.g, rfl, AG.out.la, AG.out.lg⟩ : Agree an gs [] AN GS [] na ng))
          have LMF := Aside0.mk ((⟨lim_up LM.out.la, lim_up LM.out.lg, Nat.zero_le _, LM.out.xa, fun x hx => by cases hx⟩ : Lim (i + 1) an gs [] AN GS []))
          have LK := Aside0.mk (p_like HPF.out AGF.out (LMF.out.bound (by have := HI.out; omega) AGF.out))
          go_wp2_with (first
            | (go_at_call 30
               refine LK.out.mono ?_
               rintro e w9 ⟨rfl, hb9⟩
               have HB9 := Aside0.mk hb9
               clear hb9)
            | fail)
          go_roundg d
          case measure => omega
          case rel =>
            have hh : wrap64 ((i : Int) + 1) = ((i + 1 : Nat) : Int) := by have := HI.out; unfold wrap64; omega
            exact ⟨i + 1, by first | (rw [hh]) | (push_cast; rfl), ⟨by have := HD.out; omega⟩, ⟨_, _, _, _, _, _, _, _, (HPF.out.below HB9.out).mono (fun k hk => hk.elim), AGF.out, LMF.out, below_then HBF.out HBF.out.size HB9.out⟩⟩
        · have d1 : ((X.f0 : Int) == 1) = false := beq_eq_false_iff_ne.2 k1
          have d2 : ((X.f0 : Int) == 2) = false := beq_eq_false_iff_ne.2 k2
          have d3 : ((X.f0 : Int) == 3) = false := beq_eq_false_iff_ne.2 k3
          clear k1 k2 k3
          have BX := Aside0.mk (heap_alloc_new wr (.cells #[.int .i64 X.f0, .slice A1 X.f1.f0.length c1, .slice A2 X.f1.f1.length c2, .int .i64 X.f2.f0, .slice A4 X.f2.f1.length c4, .int .i64 X.f2.f2, .int .i64 X.f2.f3, .int .i64 X.f2.f4, .int .i64 X.f2.f5, .slice A9 X.f2.f6.length c9] 84))
          have hbx := below_alloc (Below.refl wr.heap.size wr) (.cells #[.int .i64 X.f0, .slice A1 X.f1.f0.length c1, .slice A2 X.f1.f1.length c2, .int .i64 X.f2.f0, .slice A4 X.f2.f1.length c4, .int .i64 X.f2.f2, .int .i64 X.f2.f3, .int .i64 X.f2.f4, .int .i64 X.f2.f5, .slice A9 X.f2.f6.length c9] 84)
          have HP1 := Aside0.mk ((HPQ.out.below hbx).mono (Q := fun k => k = wr.heap.size) (fun k hk => .inr (by subst hk; rw [World.size_alloc]; omega)))
          have HB1 := Aside0.mk (below_then HB.out HB.out.size hbx)
          clear hbx
          have HPF := HP1
          have HBF := HB1
          have AGF := Aside0.mk (AG.out)
          have LMF := Aside0.mk (LM.out.more)
          have LK := Aside0.mk (p_like HPF.out AGF.out (LMF.out.bound (by have := HI.out; omega) AGF.out))
          go_wp2_with (first
            | (go_at_call 30
               refine LK.out.mono ?_
               rintro e w9 ⟨rfl, hb9⟩
               have HB9 := Aside0.mk hb9
               clear hb9)
            | fail)
          go_roundg d
          case measure => omega
          case rel =>
            have hh : wrap64 ((i : Int) + 1) = ((i + 1 : Nat) : Int) := by have := HI.out; unfold wrap64; omega
            exact ⟨i + 1, by first | (rw [hh]) | (push_cast; rfl), ⟨by have := HD.out; omega⟩, ⟨_, _, _, _, _, _, _, _, (HPF.out.below HB9.out).mono (fun k hk => hk.elim), AGF.out, LMF.out, below_then HBF.out HBF.out.size HB9.out⟩⟩
end Go.Proofs.Ytkpjdkmggbelfaa.Host
