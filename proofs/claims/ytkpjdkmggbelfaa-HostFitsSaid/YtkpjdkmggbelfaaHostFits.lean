/- The law HostFits: it returns true. -/
import Derived.Test.YtkpjdkmggbelfaaHostMut
import Derived.Test.YtkpjdkmggbelfaaHostFit
import Derived.Test.YtkpjdkmggbelfaaHostPair
import Derived.Outline
import Derived.Deep.RegionHeld
namespace Go.Proofs.Ytkpjdkmggbelfaa.Host
open Go.RowKit Go.Proofs.YtkpjdkmggbelfaaW.PrintWords Go.Proofs.YtkpjdkmggbelfaaW.PrintLast Go.Proofs.YtkpjdkmggbelfaaW.PrintMore Go.Proofs.Ytkpjdkmggbelfaa.Mem Go.Proofs.Ytkpjdkmggbelfaa.PHostPlays
set_option linter.unusedVariables false
set_option linter.unusedSimpArgs false
theorem one_of {α : Type} {d : Kd α} {W : World} {b : Nat} {cs : Array Value} {e : Nat} {X : α} (hb : W.heap[b]? = some (.cells cs e (0, 0))) (hK : d.K W X cs.toList) : Kd.C d W (some ⟨b, 0, none⟩) 1 [X] := by
  have hml : maxLen = 9223372036854775807 := rfl
  refine ⟨rfl, by simp [hml], fun _ => ⟨_, rfl, fun j p hj => ?_⟩⟩
  match j, hj with
  | 0, hj =>
    simp only [List.getElem?_cons_zero, Option.some.injEq] at hj
    subst hj
    refine ⟨cs.toList, d.K_len hK, hK, fun i u hu => ?_⟩
    rw [Nat.zero_mul, Nat.zero_add]
    rw [add_plain, blk_cell hb, ← Array.getElem?_toList]
    exact hu
set_option maxRecDepth 100000 in
set_option maxHeartbeats 16000000 in
theorem fits_walk (w : World) (Ap : Option Addr) (cp : Nat) (p : List Int) (Ar : Option Addr) (cr : Nat) (res : List Int) (tr : Bool) (Av : Option Addr) (cv : Nat) (v : List Int) (A1 : Option Addr) (c1 : Nat) (l1 : List S109) (A2 : Option Addr) (c2 : Nat) (l2 : List Bool)
    (hp : (Kd.int .u8).C w Ap p.length p) (hpc : p.length ≤ cp) (hr : (Kd.int .u8).C w Ar res.length res) (hrc : res.length ≤ cr) (hv : kw.C w Av v.length v) (hvc : v.length ≤ cv) (hv0 : ∀ x ∈ v, 0 ≤ x) (h1 : k109.C w A1 l1.length l1) (h1c : l1.length ≤ c1) (h2 : Kd.bool.C w A2 l2.length l2) (h2c : l2.length ≤ c2)
    (b1 : l1.length ≤ 4398046510976) (b2 : l2.length ≤ 140737488351232) (bx : ∀ x ∈ l1, x.f1.length ≤ 17592186043904) :
    Calls Try.prog 8 #[.agg #[.slice Ap p.length cp, .slice Ar res.length cr], .agg #[.bool tr, .slice Av v.length cv], .agg #[.slice A1 l1.length c1, .slice A2 l2.length c2]] w (Told w) := by
  obtain ⟨k, r, hf⟩ := few_ends [⟨0, ⟨l1, l2⟩, z82⟩] 1 (by simp) (by intro x hx; simp only [List.mem_cons, List.not_mem_nil, or_false] at hx; subst hx; exact ⟨by show l1.length ≤ _; omega, by simp [z82]⟩)
  have hb1 := below_alloc (Below.refl w.heap.size w) (.cells #[.slice Ap p.length cp, .slice Ar res.length cr] 34)
  have hb2 := hb1.alloc hb1.size (.cells #[.bool tr, .slice Av v.length cv] 109)
  have hb3 := hb2.alloc hb2.size (.cells #[.slice A1 l1.length c1, .slice A2 l2.length c2] 77)
  have k0 := (Below.heap_alloc ((w.alloc (.cells #[.slice Ap p.length cp, .slice Ar res.length cr] 34)).alloc (.cells #[.bool tr, .slice Av v.length cv] 109)) (.cells #[.slice A1 l1.length c1, .slice A2 l2.length c2] 77) w.heap.size (by rw [World.size_alloc, World.size_alloc]; omega)).trans ((Below.heap_alloc (w.alloc (.cells #[.slice Ap p.length cp, .slice Ar res.length cr] 34)) (.cells #[.bool tr, .slice Av v.length cv] 109) w.heap.size (by rw [World.size_alloc]; omega)).trans (heap_alloc_new w (.cells #[.slice Ap p.length cp, .slice Ar res.length cr] 34)))
  have k1 := heap_alloc_new (w.alloc (.cells #[.slice Ap p.length cp, .slice Ar res.length cr] 34)) (.cells #[.bool tr, .slice Av v.length cv] 109)
  rw [World.size_alloc] at k1
  replace k1 := (Below.heap_alloc ((w.alloc (.cells #[.slice Ap p.length cp, .slice Ar res.length cr] 34)).alloc (.cells #[.bool tr, .slice Av v.length cv] 109)) (.cells #[.slice A1 l1.length c1, .slice A2 l2.length c2] 77) (w.heap.size + 1) (by rw [World.size_alloc, World.size_alloc]; omega)).trans k1
  have k2 := heap_alloc_new ((w.alloc (.cells #[.slice Ap p.length cp, .slice Ar res.length cr] 34)).alloc (.cells #[.bool tr, .slice Av v.length cv] 109)) (.cells #[.slice A1 l1.length c1, .slice A2 l2.length c2] 77)
  rw [World.size_alloc, World.size_alloc] at k2
  have HP := Aside0.mk hp
  have HR := Aside0.mk hr
  have HV := Aside0.mk hv
  have HV0 := Aside0.mk hv0
  have H1 := Aside0.mk h1
  have H2 := Aside0.mk h2
  have HC := Aside0.mk (show (p.length ≤ cp ∧ res.length ≤ cr ∧ v.length ≤ cv ∧ l1.length ≤ c1 ∧ l2.length ≤ c2) from ⟨hpc, hrc, hvc, h1c, h2c⟩)
  have HL := Aside0.mk (show (l1.length ≤ 4398046510976 ∧ l2.length ≤ 140737488351232 ∧ ∀ x ∈ l1, x.f1.length ≤ 17592186043904) from ⟨b1, b2, bx⟩)
  have HB3 := Aside0.mk hb3
  have K0 := Aside0.mk k0
  have K1 := Aside0.mk k1
  have K2 := Aside0.mk k2
  have FC := Aside0.mk (fun (W : World) (b : Nat) (hW : Below w.heap.size w W) (hb : W.heap[b]? = some (.cells #[.int .i64 0, .slice A1 l1.length c1, .slice A2 l2.length c2, .int .i64 0, .slice none 0 0, .int .i64 0, .int .i64 0, .int .i64 0, .int .i64 0, .slice none 0 0] 84 (0, 0))) => trunnionlaw32_few.calls k (some ⟨b, 0, none⟩) 1 [⟨0, ⟨l1, l2⟩, z82⟩] 1 r W (one_of hb (k84_mk W ⟨0, ⟨l1, l2⟩, z82⟩ h1c (Kd.C_below h1 hW) h2c (Kd.C_below h2 hW) (Nat.zero_le _) (Kd.C_nil _ W) (Nat.zero_le _) (Kd.C_nil _ W))) (Nat.le_refl 1) hf)
  have AC := Aside0.mk (awake_calls (((w.alloc (.cells #[.slice Ap p.length cp, .slice Ar res.length cr] 34)).alloc (.cells #[.bool tr, .slice Av v.length cv] 109)).alloc (.cells #[.slice A1 l1.length c1, .slice A2 l2.length c2] 77)))
  have KB := Aside0.mk (fun (W : World) (hW : Below (((w.alloc (.cells #[.slice Ap p.length cp, .slice Ar res.length cr] 34)).alloc (.cells #[.bool tr, .slice Av v.length cv] 109)).alloc (.cells #[.slice A1 l1.length c1, .slice A2 l2.length c2] 77)).heap.size (((w.alloc (.cells #[.slice Ap p.length cp, .slice Ar res.length cr] 34)).alloc (.cells #[.bool tr, .slice Av v.length cv] 109)).alloc (.cells #[.slice A1 l1.length c1, .slice A2 l2.length c2] 77)) W) => (show W.heap[w.heap.size]? = some (.cells #[.slice Ap p.length cp, .slice Ar res.length cr] 34 (0, 0)) ∧ W.heap[w.heap.size + 1]? = some (.cells #[.bool tr, .slice Av v.length cv] 109 (0, 0)) ∧ W.heap[w.heap.size + 2]? = some (.cells #[.slice A1 l1.length c1, .slice A2 l2.length c2] 77 (0, 0)) from ⟨(hW.block _ (blk_lt K0.out)).trans K0.out, (hW.block _ (blk_lt K1.out)).trans K1.out, (hW.block _ (blk_lt K2.out)).trans K2.out⟩))
  have hu84 := Try.underlying84
  have hu77 := Try.underlying77
  have hu34 := Try.underlying34
  have hu109 := Try.underlying109
  clear hp hpc hr hrc hv hvc hv0 h1 h1c h2 h2c b1 b2 bx hf hb1 hb2 hb3 k0 k1 k2
  obtain ⟨W3, hW3⟩ : ∃ W3, W3 = ((w.alloc (.cells #[.slice Ap p.length cp, .slice Ar res.length cr] 34)).alloc (.cells #[.bool tr, .slice Av v.length cv] 109)).alloc (.cells #[.slice A1 l1.length c1, .slice A2 l2.length c2] 77) := ⟨_, rfl⟩
  rw [← hW3] at HB3 AC KB
  have HW3 := Aside0.mk hW3
  clear K0 K1 K2 hW3
  go_enter Try.func8, Try.ntmps8
  go_wp2_with fail
  rw [← HW3.out]
  refine AC.out.mono ?_
  rintro e w4 ⟨rfl, hb4⟩
  obtain ⟨m0, m1, m2⟩ := KB.out w4 hb4
  have HB4 := Aside0.mk (below_then HB3.out HB3.out.size hb4)
  have M0 := Aside0.mk m0
  have M1 := Aside0.mk m1
  have M2 := Aside0.mk m2
  have x00 : w4.cell? ⟨w.heap.size, 0, none⟩ = some (.slice Ap p.length cp) := (blk_cell m0 0).trans rfl
  have x01 : w4.cell? ⟨w.heap.size, 1, none⟩ = some (.slice Ar res.length cr) := (blk_cell m0 1).trans rfl
  have x10 : w4.cell? ⟨w.heap.size + 1, 0, none⟩ = some (.bool tr) := (blk_cell m1 0).trans rfl
  have x11 : w4.cell? ⟨w.heap.size + 1, 1, none⟩ = some (.slice Av v.length cv) := (blk_cell m1 1).trans rfl
  have x20 : w4.cell? ⟨w.heap.size + 2, 0, none⟩ = some (.slice A1 l1.length c1) := (blk_cell m2 0).trans rfl
  have x21 : w4.cell? ⟨w.heap.size + 2, 1, none⟩ = some (.slice A2 l2.length c2) := (blk_cell m2 1).trans rfl
  clear hb4 m0 m1 m2 AC HB3 KB HW3 
  clear W3
  by_cases c100 : res.length > 100
  · have d1 : decide ((res.length : Int) > 100) = true := decide_eq_true (by omega)
    clear c100
    go_wp2
    go_ret
    exact ⟨rfl, HB4.out⟩
  by_cases c101 : v.length > 100
  · have d1 : decide ((res.length : Int) > 100) = false := decide_eq_false (by omega)
    have d2 : decide ((v.length : Int) > 100) = true := decide_eq_true (by omega)
    clear c100 c101
    go_wp2
    go_ret
    exact ⟨rfl, HB4.out⟩
  have d1 : decide ((res.length : Int) > 100) = false := decide_eq_false (by omega)
  have d2 : decide ((v.length : Int) > 100) = false := decide_eq_false (by omega)
  obtain ⟨kf, rf, hf1, hf2⟩ := fits_same p res tr v HV0.out (by omega)
  have F1 := Aside0.mk (fun (W : World) (hW : Below w.heap.size w W) => Go.Proofs.Ytkpjdkmggbelfaa.PHostFits.host_Fits.calls kf Ap cp p Ar cr res tr Av cv v rf W (Kd.C_below HP.out hW) HC.out.1 (Kd.C_below HR.out hW) HC.out.2.1 (Kd.C_below HV.out hW) HC.out.2.2.1 hf1)
  have F2 := Aside0.mk (fun (W : World) (hW : Below w.heap.size w W) => Go.Proofs.Ytkpjdkmggbelfaa.PHostFits.trunnionref32_Fits.calls kf Ar cr res tr Av cv v rf W (Kd.C_below HR.out hW) HC.out.2.1 (Kd.C_below HV.out hW) HC.out.2.2.1 hf2)
  clear c100 c101 hf1 hf2
  go_wp2_with fail
  have hba := below_alloc (Below.refl w4.heap.size w4) (.cells #[.int .i64 0, .slice A1 l1.length c1, .slice A2 l2.length c2, .int .i64 0, .slice none 0 0, .int .i64 0, .int .i64 0, .int .i64 0, .int .i64 0, .slice none 0 0] 84)
  have HB4a := Aside0.mk (below_then HB4.out HB4.out.size hba)
  refine (FC.out _ _ HB4a.out (heap_alloc_new w4 _)).mono ?_
  rintro e w5 ⟨rfl, hb⟩
  have hbs := below_then hba hba.size hb
  have HB5 := Aside0.mk (below_then HB4.out HB4.out.size hbs)
  have N0 := Aside0.mk ((hbs.block _ (blk_lt M0.out)).trans M0.out)
  have N1 := Aside0.mk ((hbs.block _ (blk_lt M1.out)).trans M1.out)
  have N2 := Aside0.mk ((hbs.block _ (blk_lt M2.out)).trans M2.out)
  clear hb hba hbs FC x00 x01 x10 x11 x20 x21 d1 d2 M0 M1 M2 HB4 HB4a
  cases r with
  | false =>
    go_wp2
    go_ret
    exact ⟨rfl, HB5.out⟩
  | true =>
    go_wp2
    have KC := Aside0.mk (show ∀ W : World, W.heap[w.heap.size]? = some (.cells #[.slice Ap p.length cp, .slice Ar res.length cr] 34 (0, 0)) → W.heap[w.heap.size + 1]? = some (.cells #[.bool tr, .slice Av v.length cv] 109 (0, 0)) → (W.cell? ⟨w.heap.size, 0, none⟩ = some (.slice Ap p.length cp) ∧ W.cell? ⟨w.heap.size, 1, none⟩ = some (.slice Ar res.length cr) ∧ W.cell? ⟨w.heap.size + 1, 0, none⟩ = some (.bool tr) ∧ W.cell? ⟨w.heap.size + 1, 1, none⟩ = some (.slice Av v.length cv)) from fun W h0 h1 => ⟨(blk_cell h0 0).trans rfl, (blk_cell h0 1).trans rfl, (blk_cell h1 0).trans rfl, (blk_cell h1 1).trans rfl⟩)
    refine wp_region_held_drew (S := fun W => W.cell? ⟨w.heap.size, 0, none⟩ = some (.slice Ap p.length cp) ∧ W.cell? ⟨w.heap.size, 1, none⟩ = some (.slice Ar res.length cr) ∧ W.cell? ⟨w.heap.size + 1, 0, none⟩ = some (.bool tr) ∧ W.cell? ⟨w.heap.size + 1, 1, none⟩ = some (.slice Av v.length cv)) (by kernel_rfl) (KC.out _ N0.out N1.out) (fun hHeld => ?_)
    refine wpAnyH_take (i := 0) (oi := ?oi0) (v := ?v0) ?hi0 ?hs0 ?hf0 ?hr0 ?hq0 (Or.inl ⟨?hw0, ?hy0⟩) (by assumption) ?rest0
    case hi0 => simp only [List.getElem?_toArray, List.getElem?_cons_succ, List.getElem?_cons_zero]; rfl
    case hs0 => kernel_rfl
    case hf0 => kernel_rfl
    case hr0 => kernel_rfl
    case hq0 => exact fun _ _ _ h => h
    case hw0 => rfl
    case hy0 =>
      intro w hSw
      (try dsimp only at hSw)
      go_simp
      try with_reducible rfl
    (try simp only [Act.put, List.setIfInBounds_toArray, List.set_cons_zero, List.set_cons_succ])
    refine wpAnyH_take (i := 1) (oi := ?oi1) (v := ?v1) ?hi1 ?hs1 ?hf1 ?hr1 ?hq1 (Or.inl ⟨?hw1, ?hy1⟩) (by assumption) ?rest1
    case hi1 => simp only [List.getElem?_toArray, List.getElem?_cons_succ, List.getElem?_cons_zero]; rfl
    case hs1 => kernel_rfl
    case hf1 => kernel_rfl
    case hr1 => kernel_rfl
    case hq1 => exact fun _ _ _ h => h
    case hw1 => rfl
    case hy1 =>
      intro w hSw
      (try dsimp only at hSw)
      go_simp
      try with_reducible rfl
    (try simp only [Act.put, List.setIfInBounds_toArray, List.set_cons_zero, List.set_cons_succ])
    refine wpAnyH_take (i := 3) (oi := ?oi3) (v := ?v3) ?hi3 ?hs3 ?hf3 ?hr3 ?hq3 (Or.inl ⟨?hw3, ?hy3⟩) (by assumption) ?rest3
    case hi3 => simp only [List.getElem?_toArray, List.getElem?_cons_succ, List.getElem?_cons_zero]; rfl
    case hs3 => kernel_rfl
    case hf3 => kernel_rfl
    case hr3 => kernel_rfl
    case hq3 => exact fun _ _ _ h => h
    case hw3 => rfl
    case hy3 =>
      intro w hSw
      (try dsimp only at hSw)
      go_simp
      try with_reducible rfl
    (try simp only [Act.put, List.setIfInBounds_toArray, List.set_cons_zero, List.set_cons_succ])
    refine wpAnyH_take (i := 4) (oi := ?oi4) (v := ?v4) ?hi4 ?hs4 ?hf4 ?hr4 ?hq4 (Or.inl ⟨?hw4, ?hy4⟩) (by assumption) ?rest4
    case hi4 => simp only [List.getElem?_toArray, List.getElem?_cons_succ, List.getElem?_cons_zero]; rfl
    case hs4 => kernel_rfl
    case hf4 => kernel_rfl
    case hr4 => kernel_rfl
    case hq4 => exact fun _ _ _ h => h
    case hw4 => rfl
    case hy4 =>
      intro w hSw
      (try dsimp only at hSw)
      go_simp
      try with_reducible rfl
    (try simp only [Act.put, List.setIfInBounds_toArray, List.set_cons_zero, List.set_cons_succ])
    refine wpAnyH_take (i := 5) (oi := ?oi5) (v := ?v5) ?hi5 ?hs5 ?hf5 ?hr5 ?hq5 (Or.inl ⟨?hw5, ?hy5⟩) (by assumption) ?rest5
    case hi5 => simp only [List.getElem?_toArray, List.getElem?_cons_succ, List.getElem?_cons_zero]; rfl
    case hs5 => kernel_rfl
    case hf5 => kernel_rfl
    case hr5 => kernel_rfl
    case hq5 => exact fun _ _ _ h => h
    case hw5 => rfl
    case hy5 =>
      intro w hSw
      (try dsimp only at hSw)
      go_simp
      try with_reducible rfl
    (try simp only [Act.put, List.setIfInBounds_toArray, List.set_cons_zero, List.set_cons_succ])
    refine wpAnyH_ready (rs := [2]) (by kernel_rfl) (by simp) ?_
    refine AllReadyH.cons (o := ?o2) ?ho2 (fun K hK => ?_) AllReadyH.nil
    case ho2 => simp only [List.getElem?_toArray, List.getElem?_cons_succ, List.getElem?_cons_zero]; rfl
    go_simp
    refine (F1.out _ (below_drew HB5.out)).mono ?_
    rintro e6 w6 ⟨rfl, hb⟩
    have O0 := Aside0.mk ((hb.block _ (blk_lt N0.out)).trans N0.out)
    have O1 := Aside0.mk ((hb.block _ (blk_lt N1.out)).trans N1.out)
    have O2 := Aside0.mk ((hb.block _ (blk_lt N2.out)).trans N2.out)
    have HB6 := Aside0.mk (below_then (below_drew HB5.out) HB5.out.size hb)
    clear hb
    refine hK.out _ _ (KC.out _ O0.out O1.out) (fun hHeld2 => ?_)
    clear hK K hHeld
    have hHeld := hHeld2
    clear hHeld2
    (try simp only [Act.put, List.setIfInBounds_toArray, List.set_cons_zero, List.set_cons_succ])
    refine wpAnyH_ready (rs := [6]) (by kernel_rfl) (by simp) ?_
    refine AllReadyH.cons (o := ?o6) ?ho6 (fun K hK => ?_) AllReadyH.nil
    case ho6 => simp only [List.getElem?_toArray, List.getElem?_cons_succ, List.getElem?_cons_zero]; rfl
    go_simp
    refine (F2.out _ HB6.out).mono ?_
    rintro e7 w7 ⟨rfl, hb⟩
    have P0 := Aside0.mk ((hb.block _ (blk_lt O0.out)).trans O0.out)
    have P1 := Aside0.mk ((hb.block _ (blk_lt O1.out)).trans O1.out)
    have P2 := Aside0.mk ((hb.block _ (blk_lt O2.out)).trans O2.out)
    have HB7 := Aside0.mk (below_then HB6.out HB6.out.size hb)
    clear hb
    refine hK.out _ _ (KC.out _ P0.out P1.out) (fun hHeld2 => ?_)
    clear hK K hHeld
    have hHeld := hHeld2
    clear hHeld2
    (try simp only [Act.put, List.setIfInBounds_toArray, List.set_cons_zero, List.set_cons_succ])
    refine wpAnyH_take (i := 7) (oi := ?oi7) (v := ?v7) ?hi7 ?hs7 ?hf7 ?hr7 ?hq7 (Or.inl ⟨?hw7, ?hy7⟩) (by assumption) ?rest7
    case hi7 => simp only [List.getElem?_toArray, List.getElem?_cons_succ, List.getElem?_cons_zero]; rfl
    case hs7 => kernel_rfl
    case hf7 => kernel_rfl
    case hr7 => kernel_rfl
    case hq7 => exact fun _ _ _ h => h
    case hw7 => rfl
    case hy7 =>
      intro w hSw
      (try dsimp only at hSw)
      go_simp
      try with_reducible rfl
    (try simp only [Act.put, List.setIfInBounds_toArray, List.set_cons_zero, List.set_cons_succ])
    refine wpAnyH_done (by kernel_rfl) ?_ _
    clear hHeld KC F1 F2 N0 N1 N2 O0 O1 O2 HB5 HB6
    have NC := Aside0.mk (New_calls w.heap.size w7 HB7.out.size)
    go_wp2_with (first
      | (go_at_call 23
         refine NC.out.mono ?_
         rintro e w8 ⟨g, tag, rfl, hq, hg, ht, hb⟩
         have q2 := (hb.block _ (blk_lt P2.out)).trans P2.out
         have x20 : w8.cell? ⟨w.heap.size + 2, 0, none⟩ = some (.slice A1 l1.length c1) := (blk_cell q2 0).trans rfl
         have x21 : w8.cell? ⟨w.heap.size + 2, 1, none⟩ = some (.slice A2 l2.length c2) := (blk_cell q2 1).trans rfl
         have Q2 := Aside0.mk q2
         have HB8 := Aside0.mk (below_then HB7.out HB7.out.size hb)
         have T2 := Aside0.mk (show tag (w.heap.size + 2) = 0 from Classical.byContradiction fun hn => by have := ht _ hn; have := blk_lt P2.out; omega)
         have FE := Aside0.mk (Feed_calls w.heap.size w8 g tag [] [] [] _ _ _ hq A1 c1 l1 (by have := HL.out.1; simp only [List.length_nil, Nat.zero_add]; exact this) HL.out.1 (qs_fr hq (Kd.F_step (Kd.C_F heap109 H1.out) fun k hk hlt => HB8.out.block k hk)) HL.out.2.2 A2 c2 l2 (by have := HL.out.2.1; simp only [List.length_nil, Nat.zero_add]; exact this) HL.out.2.1 (qs_fr hq (Kd.F_step (Kd.C_F Kd.heap_bool H2.out) fun k hk hlt => HB8.out.block k hk)))
         clear hq hg ht hb q2)
      | (go_at_call 24
         refine FE.out.mono ?_
         rintro e w9 ⟨rfl, hq⟩
         obtain ⟨tag9, va9, vg9, vc9, h9, _, hb9, k9⟩ := hq.step
         have HQ9 := Aside0.mk h9
         have HB9 := Aside0.mk (HB8.out.trans hb9)
         have R2 := Aside0.mk ((k9 _ (blk_lt Q2.out) T2.out).1.trans Q2.out)
         have LC := Aside0.mk (Left_calls w.heap.size w9 g tag9 l1 l2 [] va9 vg9 vc9 h9 HL.out.1 HL.out.2.1 HL.out.2.2)
         clear hq h9 hb9 k9)
      | fail)
    refine LC.out.mono ?_
    rintro e w10 ⟨A3, c3, A4, c4, rfl, hr1, hr2, hn1, hn2, hb10⟩
    have hba := below_alloc (Below.refl w10.heap.size w10) (.cells #[.slice A3 l1.length c3, .slice A4 l2.length c4] 77)
    have hbb := below_then hb10 hb10.size hba
    have MI0 := Aside0.mk (show MI (w10.alloc (.cells #[.slice A3 l1.length c3, .slice A4 l2.length c4] 77)) (w10.alloc (.cells #[.slice A3 l1.length c3, .slice A4 l2.length c4] 77)) w9.heap.size w10.heap.size A3 l1.length c3 A4 l2.length c4 from
      ⟨Below.refl _ _, heap_alloc_new w10 _, hb10.size,
       ans_of (hr1.move (fun k hk hlt => hba.block k hlt) fun k hk => hba.block k (hr1.lt k hk)) (fun k hk => hk.1) hn1 HL.out.2.2,
       gr_of (hr2.move (fun k hk hlt => hk.elim) fun k hk => hba.block k (hr2.lt k hk)) hn2⟩)
    have HQ11 := Aside0.mk (HQ9.out.below hbb)
    have HB11 := Aside0.mk (below_then HB9.out HB9.out.size hbb)
    have R11 := Aside0.mk ((hbb.block _ (blk_lt R2.out)).trans R2.out)
    have LO := Aside0.mk (show (∀ k, tag9 k ≠ 0 → k < w9.heap.size) ∧ w.heap.size + 2 < w9.heap.size ∧ w.heap.size ≤ w9.heap.size from ⟨fun k hk => (HQ9.out.tagged k hk).2, blk_lt R2.out, HQ9.out.low⟩)
    have l0 : (w10.alloc (.cells #[.slice A3 l1.length c3, .slice A4 l2.length c4] 77)).cell? ⟨w10.heap.size, 0, none⟩ = some (.slice A3 l1.length c3) := (blk_cell (heap_alloc_new w10 _) 0).trans rfl
    go_wp2_with fail
    obtain ⟨lo, hlo⟩ : ∃ lo, lo = w9.heap.size := ⟨_, rfl⟩
    obtain ⟨bl, hbl⟩ : ∃ bl, bl = w10.heap.size := ⟨_, rfl⟩
    obtain ⟨W5, hW5⟩ : ∃ W5, W5 = w10.alloc (.cells #[.slice A3 l1.length c3, .slice A4 l2.length c4] 77) := ⟨_, rfl⟩
    rw [← hlo, ← hbl, ← hW5] at MI0
    rw [← hW5] at HQ11 HB11 R11
    rw [← hlo] at LO
    rw [← hbl, ← hW5]
    clear hlo hbl hW5 hr1 hr2 hn1 hn2 hb10 hba hbb l0 R2 HB9 HQ9 LC
    go_loopg [48] l1.length (fun d v48 w' => ∃ i : Nat, v48 = .int .i64 (i : Int) ∧ Aside0 (i + d = l1.length) ∧ Aside0 (MI W5 w' lo bl A3 l1.length c3 A4 l2.length c4))
    case atStart => exact ⟨0, rfl, ⟨by omega⟩, MI0⟩
    case round =>
      clear MI0
      obtain ⟨i, rfl, HD, HM⟩ := hrel
      have hd := HD.out
      have hlen := HL.out.1
      cases gk with
      | zero =>
        have e1 : decide (i < l1.length) = false := decide_eq_false (by omega)
        have m1 : wr.cell? ⟨bl, 1, none⟩ = some (.slice A4 l2.length c4) := (blk_cell HM.out.box 1).trans rfl
        clear hd hlen
        go_wp2
        have HM0 := HM
        clear m1 HM HD e1
        go_loopg [89] l2.length (fun d v89 w' => ∃ i : Nat, v89 = .int .i64 (i : Int) ∧ Aside0 (i + d = l2.length) ∧ Aside0 (MI W5 w' lo bl A3 l1.length c3 A4 l2.length c4))
        case atStart => exact ⟨0, rfl, ⟨by omega⟩, HM0⟩
        case round =>
          clear HM0
          obtain ⟨i, rfl, HD, HM⟩ := hrel
          have hd := HD.out
          have hlen := HL.out.2.1
          cases gk with
          | zero =>
            have e1 : decide (i < l2.length) = false := decide_eq_false (by omega)
            clear hd hlen
            go_wp2
            have hbw := (HM.out.below).mono LO.out.2.2
            have HBW := Aside0.mk (below_drew (HB11.out.trans hbw))
            have r20 := (HM.out.below.block (w.heap.size + 2) LO.out.2.1).trans R11.out
            have x20 : wr.cell? ⟨w.heap.size + 2, 0, none⟩ = some (.slice A1 l1.length c1) := (blk_cell r20 0).trans rfl
            have x21 : wr.cell? ⟨w.heap.size + 2, 1, none⟩ = some (.slice A2 l2.length c2) := (blk_cell r20 1).trans rfl
            have R20 := Aside0.mk r20
            have QW := Aside0.mk (HQ11.out.move HM.out.below.size (fun k hk => HM.out.below.block k (by have := LO.out.2.2; omega)) fun k hk => HM.out.below.block k (LO.out.1 k hk))
            have AN := Aside0.mk (Ans_calls w.heap.size wr.drew A1 c1 l1 HBW.out.size HL.out.1 (Kd.F_step (Kd.C_F heap109 H1.out) fun k hk hlt => HBW.out.block k hk))
            have LK := Aside0.mk (fun (W20 : World) (A5 : Option Addr) (c5 : Nat) (hinv : AnsInv w.heap.size wr.drew W20 (.slice A5 l1.length c5) (l1.map cvA)) => by
              have hb20 := below_then (below_drew (Below.refl wr.heap.size wr)) (Nat.le_refl _) hinv.below
              have hba := below_alloc (Below.refl W20.heap.size W20) (.cells #[.slice A5 l1.length c5, .slice A2 l2.length c2, .int .i64 0, .int .i64 0, .slice none 0 0] 74)
              have hF := hinv.row.F
              have hbz := below_then HBW.out HBW.out.size hinv.below
              exact like_calls w.heap.size (W20.alloc (.cells #[.slice A5 l1.length c5, .slice A2 l2.length c2, .int .i64 0, .int .i64 0, .slice none 0 0] 74)) g W20.heap.size tag9 l1 l2 [] va9 vg9 vc9 (QW.out.below (below_then hb20 hb20.size hba)) A5 A2 none c5 c2 0 (l1.map cvA) l2 [] 0 0
                ⟨by rw [List.length_map]; exact heap_alloc_new W20 _, Kd.C_below (Kd.F_now hF.2.2) hba, Kd.C_below H2.out (below_then hbz hbz.size hba), Kd.C_nil _ _, hF.2.1, HC.out.2.2.2.2, Nat.le_refl _⟩
                ⟨rfl, rfl, rfl, Nat.zero_le _, Nat.zero_le _⟩ ⟨HL.out.1, HL.out.2.1, Nat.zero_le _, HL.out.2.2, fun x hx => by cases hx⟩)
            clear hbw r20
            go_region_with (first
              | (go_at_call 25; refine AN.out.mono ?_; rintro e1 w20 ⟨A5, c5, rfl, hinv⟩; have INV := Aside0.mk hinv; have r20 := (hinv.below.block _ (blk_lt R20.out)).trans R20.out; have y20 : w20.cell? ⟨w.heap.size + 2, 0, none⟩ = some (.slice A1 l1.length c1) := (blk_cell r20 0).trans rfl; have y21 : w20.cell? ⟨w.heap.size + 2, 1, none⟩ = some (.slice A2 l2.length c2) := (blk_cell r20 1).trans rfl; clear hinv r20)
              | (go_at_call 30; refine (LK.out _ _ _ INV.out).mono ?_; rintro e2 w21 ⟨rfl, hb⟩; have HB21 := Aside0.mk (below_then (below_then (below_then HBW.out HBW.out.size INV.out.below) (below_then HBW.out HBW.out.size INV.out.below).size (below_alloc (Below.refl _ _) _)) (below_then (below_then HBW.out HBW.out.size INV.out.below) (below_then HBW.out HBW.out.size INV.out.below).size (below_alloc (Below.refl _ _) _)).size hb); clear hb))
            all_goals
              go_wp2
              go_ret
              exact ⟨rfl, HB21.out⟩
          | succ d =>
            have hi : i < l2.length := by omega
            have e1 : decide (i < l2.length) = true := decide_eq_true hi
            have hiI : (i : Int) ≤ 140737488351232 := by omega
            have hw1 : wrap64 ((i : Int) + 1) = (i : Int) + 1 := by unfold wrap64; omega
            obtain ⟨gb, cur, eA, hg⟩ : ∃ gb cur, A4 = some ⟨gb, 0, none⟩ ∧ GrAt wr lo gb l2.length cur := by
              rcases HM.out.gr with h0 | h
              · omega
              · exact h
            obtain ⟨ad, had⟩ : ∃ ad : Addr, ad = ⟨gb, 0, none⟩ := ⟨_, rfl⟩
            rw [← had] at eA
            have HAD := Aside0.mk had
            have HEA := Aside0.mk eA
            subst eA
            obtain ⟨tv, htv⟩ := hg.cells i hi
            have m1 : wr.cell? ⟨bl, 1, none⟩ = some (.slice (some ad) l2.length c4) := (blk_cell HM.out.box 1).trans rfl
            have y0 : wr.cell? (ad.add i) = some (.bool tv) := by rw [had, add_plain, blk_cell hg.blk]; exact htv
            have y1 : wr.frozen? (ad.add i) = false := by rw [had, add_plain]; exact blk_frozen hg.blk _
            have HG := Aside0.mk hg
            clear hd hlen had hg htv
            go_wp2
            go_region
            all_goals
              go_wp2
              go_roundg d
              case measure => omega
              case rel =>
                have hadd : ad.add i = ⟨gb, i, none⟩ := by rw [HAD.out, add_plain]
                refine ⟨i + 1, by push_cast; rfl, ⟨by have := HD.out; omega⟩, ⟨?_⟩⟩
                rw [hadd]
                first
                  | exact (HM.out.drew.set_grow (cur := cur) ⟨HG.out.blk, HG.out.low, HG.out.cells⟩ (by rw [HAD.out]) i _)
                  | exact (HM.out.set_grow (cur := cur) HG.out (by rw [HAD.out]) i _).drew
                  | exact (HM.out.set_grow (cur := cur) HG.out (by rw [HAD.out]) i _)
      | succ d =>
        have hi : i < l1.length := by omega
        have e1 : decide (i < l1.length) = true := decide_eq_true hi
        have hiI : (i : Int) ≤ 140737488351232 := by omega
        have hw1 : wrap64 ((i : Int) + 1) = (i : Int) + 1 := by unfold wrap64; omega
        obtain ⟨ga, cur, eA, hg⟩ : ∃ ga cur, A3 = some ⟨ga, 0, none⟩ ∧ AnsAt wr lo ga l1.length cur := by
          rcases HM.out.ans with h0 | h
          · omega
          · exact h
        obtain ⟨ad, had⟩ : ∃ ad : Addr, ad = ⟨ga, 0, none⟩ := ⟨_, rfl⟩
        rw [← had] at eA
        have HAD := Aside0.mk had
        subst eA
        obtain ⟨tv, A6, m6, c6, ht0, ht1, hwd⟩ := hg.cells i hi
        have m1 : wr.cell? ⟨bl, 0, none⟩ = some (.slice (some ad) l1.length c3) := (blk_cell HM.out.box 0).trans rfl
        have y0 : wr.cell? (ad.add (i * 2)) = some (.bool tv) := by rw [had, add_plain, blk_cell hg.blk]; exact ht0
        have y1 : wr.frozen? (ad.add (i * 2)) = false := by rw [had, add_plain]; exact blk_frozen hg.blk _
        have HG := Aside0.mk hg
        have HT1 := Aside0.mk ht1
        clear hd hlen had hg ht0 ht1 hwd
        go_wp2
        go_region
        have hadd : ad.add (i * 2) = ⟨ga, i * 2, none⟩ := by rw [HAD.out, add_plain]
        obtain ⟨W1, hW1⟩ : ∃ W1, W1 = (wr.setCell (ad.add (i * 2)) (.bool (!tv))).drew := ⟨_, rfl⟩
        have hm0 := HM.out.set_trap (cur := cur) HG.out (by rw [HAD.out]) i (!tv)
        have hmi : MI W5 (wr.setCell ⟨ga, i * 2, none⟩ (.bool (!tv))).drew lo bl (some ad) l1.length c3 A4 l2.length c4 ∧ AnsAt (wr.setCell ⟨ga, i * 2, none⟩ (.bool (!tv))).drew lo ga l1.length (cur.setIfInBounds (i * 2) (.bool (!tv))) := ⟨hm0.1.drew, hm0.2.blk, hm0.2.low, hm0.2.cells⟩
        clear hm0
        rw [← hadd, ← hW1] at hmi
        obtain ⟨cur1, hcur1⟩ : ∃ cur1, cur1 = cur.setIfInBounds (i * 2) (.bool (!tv)) := ⟨_, rfl⟩
        rw [← hcur1] at hmi
        rw [← hW1]
        obtain ⟨t', A', m', c', _, h2', hw'⟩ := hmi.2.cells i hi
        have m1 : W1.cell? ⟨bl, 0, none⟩ = some (.slice (some ad) l1.length c3) := (blk_cell hmi.1.box 0).trans rfl
        have y2 : W1.cell? ⟨(ad.add (i * 2)).block, (ad.add (i * 2)).off + 1, none⟩ = some (.slice A' m' c') := by
          rw [hadd, blk_cell hmi.2.blk]
          exact h2'
        have HMI := Aside0.mk hmi
        have H2' := Aside0.mk h2'
        have HML := Aside0.mk hw'.1
        have HAA := Aside0.mk hadd
        clear hW1 hcur1 hmi h2' hw' hadd y0 y1 HT1 HG HM
        go_wp2
        clear m1 y2
        have hdeep := HML.out
        go_loopg [70] m' (fun d2 v70 w' => ∃ k : Nat, v70 = .int .i64 (k : Int) ∧ Aside0 (k + d2 = m') ∧ Aside0 (MI W5 w' lo bl (some ad) l1.length c3 A4 l2.length c4 ∧ AnsAt w' lo ga l1.length cur1))
        case atStart => exact ⟨0, rfl, ⟨by omega⟩, HMI⟩
        case round =>
          clear HMI
          obtain ⟨k, rfl, HD2, HM⟩ := hrel
          have hd2 := HD2.out
          cases gk with
          | zero =>
            have e2 : decide (k < m') = false := decide_eq_false (by omega)
            clear hd2
            go_wp2
            go_roundg d
            case measure => omega
            case rel => exact ⟨i + 1, by push_cast; rfl, ⟨by have := HD.out; omega⟩, ⟨HM.out.1⟩⟩
          | succ d2 =>
            have hk : k < m' := by omega
            have e2 : decide (k < m') = true := decide_eq_true hk
            have hkI : (k : Int) ≤ 17592186043904 := by omega
            have hw2 : wrap64 ((k : Int) + 1) = (k : Int) + 1 := by unfold wrap64; omega
            obtain ⟨t'', A'', m'', c'', _, h2'', hw''⟩ := HM.out.2.cells i hi
            have e3 := h2''.symm.trans H2'.out
            injection e3 with e3
            injection e3 with e3 e4 e5
            subst e3 e4 e5
            obtain ⟨gw, ws, eW, hlw, hgw, hxw⟩ : ∃ gw ws, A'' = some ⟨gw, 0, none⟩ ∧ lo ≤ gw ∧ wr.heap[gw]? = some (.cells ws 113 (0, 0)) ∧ ∀ k : Nat, k < m'' → ∃ x, ws[k]? = some (.int .u64 x) := by
              rcases hw''.2 with h0 | h
              · omega
              · exact h
            obtain ⟨ad2, had2⟩ : ∃ ad2 : Addr, ad2 = ⟨gw, 0, none⟩ := ⟨_, rfl⟩
            rw [← had2] at eW
            subst eW
            obtain ⟨xw, hxw⟩ := hxw k hk
            have m1 : wr.cell? ⟨bl, 0, none⟩ = some (.slice (some ad) l1.length c3) := (blk_cell HM.out.1.box 0).trans rfl
            have y2 : wr.cell? ⟨(ad.add (i * 2)).block, (ad.add (i * 2)).off + 1, none⟩ = some (.slice (some ad2) m'' c'') := by
              rw [HAA.out, blk_cell HM.out.2.blk]
              exact h2''
            have z0 : wr.cell? (ad2.add k) = some (.int .u64 xw) := by rw [had2, add_plain, blk_cell hgw]; exact hxw
            have z1 : wr.frozen? (ad2.add k) = false := by rw [had2, add_plain]; exact blk_frozen hgw _
            have HGW := Aside0.mk hgw
            have HLW := Aside0.mk hlw
            have HAD2 := Aside0.mk had2
            clear hd2 h2'' hw'' hlw hgw hxw had2
            go_wp2
            go_roundg d2
            case measure => omega
            case rel =>
              refine ⟨k + 1, by push_cast; rfl, ⟨by have := HD2.out; omega⟩, ⟨?_⟩⟩
              have hadd2 : ad2.add k = ⟨gw, k, none⟩ := by rw [HAD2.out, add_plain]
              rw [hadd2]
              exact HM.out.1.set_word HM.out.2 (by rw [HAD.out]) HGW.out HLW.out k _
end Go.Proofs.Ytkpjdkmggbelfaa.Host
