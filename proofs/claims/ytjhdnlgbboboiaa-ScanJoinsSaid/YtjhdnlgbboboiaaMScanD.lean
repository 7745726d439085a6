/- The reader's Limits. -/
import Derived.Test.YtjhdnlgbboboiaaMScanC
import Derived.Laws.StructEq
namespace Go.Proofs.Ytjhdnlgbboboiaa.Scan
open Go.Proofs.Ytjhdnlgbboboiaa.Leb Go.Proofs.Ytjhdnlgbboboiaa.Mem Go.RowKit Go.Proofs.YtjhdnlgbboboiaaW.PrintWords Go.Proofs.YtjhdnlgbboboiaaW.PrintLast Go.Proofs.YtjhdnlgbboboiaaW.PrintMore Go.Proofs.Ytjhdnlgbboboiaa.Base
set_option linter.unusedVariables false
set_option linter.unusedSimpArgs false
theorem amongM_off (er : Int) (L l : List Int) (a e : Int) (he : e ≠ 0) : amongM er L l a e = (0, a, e) := by unfold amongM readsM; rw [if_neg he]
def limT (l : List Int) (a e : Int) : Lim × Int × Int :=
  let h := amongM 107 [0, 1] l a e
  let m := u32M l h.2.1 h.2.2
  let x := u32M l m.2.1 m.2.2
  if h.1 = 1 then ((m.1, x.1, true), x.2) else ((m.1, 0, false), m.2)
theorem limitsM_is (l : List Int) (a e : Int) : limitsM l a e = if (limT l a e).2.2 = 0 then limT l a e else ((0, 0, false), a, (limT l a e).2.2) := by
  by_cases he : e = 0
  · subst he
    unfold limitsM readsM rM
    rw [if_pos rfl]
    rfl
  · have e2 : limT l a e = ((0, 0, false), a, e) := by
      unfold limT
      simp only [amongM_off _ _ _ _ _ he, u32M_off _ _ _ he]
      rfl
    rw [e2]
    unfold limitsM readsM
    rw [if_neg he]
    simp only [if_neg he]
section
variable {w w2 W W' : World} {g c : Nat} {A : Option Addr} {l : List Int} {a e a1 e1 : Int}
set_option maxRecDepth 100000 in
set_option maxHeartbeats 1000000 in
theorem RLimits_yes_ok (h : Rdr w g A c l a e) (h6 : l.length ≤ 6000) (b ba be m ma me n na ne : Int) (hb_ : amongM 107 [0, 1] l a e = (b, ba, be)) (hm_ : u32M l ba be = (m, ma, me)) (hx_ : u32M l ma me = (n, na, ne)) (hbb : b = 1) (hte : ne = 0) :
    Calls Try.prog 55 #[.pointer (some ⟨g, 0, none⟩)] w (RDid w g A c l (.agg #[.int .u32 m, .int .u32 n, .bool true]) na ne) := by
  have hu := Try.underlying22
  have hu86 := Try.underlying86
  have hb := below_alloc (Below.refl w.heap.size w) (.cells #[.int .u32 0, .int .u32 0, .bool false] 90)
  have h1 := h.below hb
  have AC := ramong_laid h1 107 (by decide) [0, 1] (by decide) 5
  rw [World.size_alloc, hb_] at AC
  replace AC := Aside0.mk AC
  have UC := Aside0.mk (fun W (hC : Rdr W g A c l ba be) => RUint_calls hC h6)
  have XC := Aside0.mk (fun W (hC : Rdr W g A c l ma me) => RUint_calls hC h6)
  have R1 := u32M_range l ba be
  have R2 := u32M_range l ma me
  rw [hm_] at UC R1
  rw [hx_] at XC R2
  simp only at AC UC XC R1 R2
  obtain ⟨m0, m1⟩ := R1
  obtain ⟨n0, n1⟩ := R2
  have GB := Aside0.mk (grown_of_below hb (some g))
  have q0 := heap_alloc_new w (.cells #[.int .u32 0, .int .u32 0, .bool false] 90)
  have Q := Aside0.mk (fun (W : World) (hW : (w.alloc (.cells #[.int .u32 0, .int .u32 0, .bool false] 90)).grownBy W (some g)) => cap_keep q0 (by have := h.lt; omega) hW)
  have H := Aside0.mk h
  have x1 := h1.c1
  have BK := Aside0.mk (fun (W : World) (hC : Rdr W g A c l na ne) => RBack_calls hC a h.lo h.hi)
  rw [if_pos hte] at BK
  have d1 : ((b : Int) == 1) = true := beq_iff_eq.2 hbb
  have d2 : ((ne : Int) != 0) = false := by rw [hte]; rfl
  clear h h1 hb q0 hb_ hm_ hx_ hbb hte
  go_enter Try.func55, Try.ntmps55
  go_wp2_with (first
      | (go_at_call 75; refine XC1.out.mono ?_; rintro e1 w3 ⟨rfl, hg, hc⟩
         have hne : w2.heap.size ≠ g := by have := SZ2.out; have := H.out.lt; omega
         have x4 := cap_keep QX.out hne hg
         have g4 := blk_frozen x4 1
         have k_4 := (blk_cell x4 1).trans rfl
         have x5 := blk_set x4 1 (.int .u32 n)
         have v0 := (blk_cell x5 0).trans rfl
         have v1 := (blk_cell x5 1).trans rfl
         have v2 := (blk_cell x5 2).trans rfl
         have hgs := H.out.off (Nat.le_of_lt SZ2.out) (grown_then GB.out (grown_then HGX.out hg)) hc (grown_set w3 w2.heap.size 1 (.int .u32 n))
         have y2 := hgs.2.c2
         have q3 := blk_set_ne (Q.out w3 (grown_then HGX.out hg)) (t := w2.heap.size) (by have := SZ2.out; omega) 1 (.int .u32 n)
         have Q3 := Aside0.mk q3
         have HS3 := Aside0.mk hgs
         have z0 := (blk_cell q3 0).trans rfl
         have z1 := (blk_cell q3 1).trans rfl
         have z2 := (blk_cell q3 2).trans rfl
         have f0 := blk_frozen q3 0
         have f1 := blk_frozen q3 1
         have f2 := blk_frozen q3 2
         clear hg hc hgs q3 x4 x5 hne)
      | (go_at_call 75; refine UC1.out.mono ?_; rintro e1 w2 ⟨rfl, hg, hc⟩
         have hg2 := grown_then HG.out hg
         have SZ2 := Aside0.mk (show w.heap.size < w2.heap.size from Nat.lt_of_lt_of_le SZ1.out hg.size)
         have hb2 := below_alloc (Below.refl w2.heap.size w2) (.cells #[.int .u32 m, .int .u32 0, .bool true] 90)
         have hgx := grown_then hg2 (grown_of_below hb2 (some g))
         have HGX := Aside0.mk hgx
         have QX := Aside0.mk (heap_alloc_new w2 (.cells #[.int .u32 m, .int .u32 0, .bool true] 90))
         have hcx := hc.below hb2
         have XC1 := Aside0.mk (XC.out _ hcx)
         clear hg hc hg2 hgx hcx hb2)
      | (go_at_call 74; refine AC.out.mono ?_; rintro e1 w1 ⟨rfl, hg, hc⟩; have HG := Aside0.mk hg; have UC1 := Aside0.mk (UC.out w1 hc); have SZ1 := Aside0.mk (show w.heap.size < w1.heap.size from Nat.lt_of_lt_of_le (by simp) hg.size); clear hg hc)
      | fail)
  have P := blk_put3 Q3.out (.int .u32 m) (.int .u32 n) (.bool true)
  have k0 := blk_cell P 0
  have k1 := blk_cell P 1
  have k2 := blk_cell P 2
  simp at k0 k1 k2
  refine bodyPost_ret (v := .agg #[.int .u32 m, .int .u32 n, .bool true]) (by simp [results, Try.results55, go_sem, k0, k1, k2]) rfl ?_
  have R := H.out.off (Nat.le_refl _) HS3.out.1 HS3.out.2 (grown_set3 _ w.heap.size (.int .u32 m) (.int .u32 n) (.bool true))
  exact ⟨rfl, R.1, R.2⟩
set_option maxRecDepth 100000 in
set_option maxHeartbeats 1000000 in
theorem RLimits_yes_bad (h : Rdr w g A c l a e) (h6 : l.length ≤ 6000) (b ba be m ma me n na ne : Int) (hb_ : amongM 107 [0, 1] l a e = (b, ba, be)) (hm_ : u32M l ba be = (m, ma, me)) (hx_ : u32M l ma me = (n, na, ne)) (hbb : b = 1) (hte : ne ≠ 0) :
    Calls Try.prog 55 #[.pointer (some ⟨g, 0, none⟩)] w (RDid w g A c l (.agg #[.int .u32 0, .int .u32 0, .bool false]) a ne) := by
  have hu := Try.underlying22
  have hu86 := Try.underlying86
  have hb := below_alloc (Below.refl w.heap.size w) (.cells #[.int .u32 0, .int .u32 0, .bool false] 90)
  have h1 := h.below hb
  have AC := ramong_laid h1 107 (by decide) [0, 1] (by decide) 5
  rw [World.size_alloc, hb_] at AC
  replace AC := Aside0.mk AC
  have UC := Aside0.mk (fun W (hC : Rdr W g A c l ba be) => RUint_calls hC h6)
  have XC := Aside0.mk (fun W (hC : Rdr W g A c l ma me) => RUint_calls hC h6)
  have R1 := u32M_range l ba be
  have R2 := u32M_range l ma me
  rw [hm_] at UC R1
  rw [hx_] at XC R2
  simp only at AC UC XC R1 R2
  obtain ⟨m0, m1⟩ := R1
  obtain ⟨n0, n1⟩ := R2
  have GB := Aside0.mk (grown_of_below hb (some g))
  have q0 := heap_alloc_new w (.cells #[.int .u32 0, .int .u32 0, .bool false] 90)
  have Q := Aside0.mk (fun (W : World) (hW : (w.alloc (.cells #[.int .u32 0, .int .u32 0, .bool false] 90)).grownBy W (some g)) => cap_keep q0 (by have := h.lt; omega) hW)
  have H := Aside0.mk h
  have x1 := h1.c1
  have BK := Aside0.mk (fun (W : World) (hC : Rdr W g A c l na ne) => RBack_calls hC a h.lo h.hi)
  rw [if_neg hte] at BK
  have d1 : ((b : Int) == 1) = true := beq_iff_eq.2 hbb
  have d2 : ((ne : Int) != 0) = true := by rw [bne_iff_ne]; exact hte
  clear h h1 hb q0 hb_ hm_ hx_ hbb hte
  go_enter Try.func55, Try.ntmps55
  go_wp2_with (first
      | (go_at_call 76; refine BK2.out.mono ?_; rintro e1 w5 ⟨rfl, hg, hc⟩
         have q5 := cap_keep Q3.out (by have := H.out.lt; omega) hg
         have Q5 := Aside0.mk q5
         have HS5 := Aside0.mk (And.intro (grown_then HS3.out.1 hg) hc)
         have z0 := (blk_cell q5 0).trans rfl
         have z1 := (blk_cell q5 1).trans rfl
         have z2 := (blk_cell q5 2).trans rfl
         have f0 := blk_frozen q5 0
         have f1 := blk_frozen q5 1
         have f2 := blk_frozen q5 2
         clear hg hc q5)
      | (go_at_call 75; refine XC1.out.mono ?_; rintro e1 w3 ⟨rfl, hg, hc⟩
         have hne : w2.heap.size ≠ g := by have := SZ2.out; have := H.out.lt; omega
         have x4 := cap_keep QX.out hne hg
         have g4 := blk_frozen x4 1
         have k_4 := (blk_cell x4 1).trans rfl
         have x5 := blk_set x4 1 (.int .u32 n)
         have v0 := (blk_cell x5 0).trans rfl
         have v1 := (blk_cell x5 1).trans rfl
         have v2 := (blk_cell x5 2).trans rfl
         have hgs := H.out.off (Nat.le_of_lt SZ2.out) (grown_then GB.out (grown_then HGX.out hg)) hc (grown_set w3 w2.heap.size 1 (.int .u32 n))
         have y2 := hgs.2.c2
         have q3 := blk_set_ne (Q.out w3 (grown_then HGX.out hg)) (t := w2.heap.size) (by have := SZ2.out; omega) 1 (.int .u32 n)
         have Q3 := Aside0.mk q3
         have HS3 := Aside0.mk hgs
         have BK2 := Aside0.mk (BK.out _ hgs.2)
         clear hg hc hgs q3 x4 x5 hne)
      | (go_at_call 75; refine UC1.out.mono ?_; rintro e1 w2 ⟨rfl, hg, hc⟩
         have hg2 := grown_then HG.out hg
         have SZ2 := Aside0.mk (show w.heap.size < w2.heap.size from Nat.lt_of_lt_of_le SZ1.out hg.size)
         have hb2 := below_alloc (Below.refl w2.heap.size w2) (.cells #[.int .u32 m, .int .u32 0, .bool true] 90)
         have hgx := grown_then hg2 (grown_of_below hb2 (some g))
         have HGX := Aside0.mk hgx
         have QX := Aside0.mk (heap_alloc_new w2 (.cells #[.int .u32 m, .int .u32 0, .bool true] 90))
         have hcx := hc.below hb2
         have XC1 := Aside0.mk (XC.out _ hcx)
         clear hg hc hg2 hgx hcx hb2)
      | (go_at_call 74; refine AC.out.mono ?_; rintro e1 w1 ⟨rfl, hg, hc⟩; have HG := Aside0.mk hg; have UC1 := Aside0.mk (UC.out w1 hc); have SZ1 := Aside0.mk (show w.heap.size < w1.heap.size from Nat.lt_of_lt_of_le (by simp) hg.size); clear hg hc)
      | fail)
  have P := blk_put3 Q5.out (.int .u32 0) (.int .u32 0) (.bool false)
  have k0 := blk_cell P 0
  have k1 := blk_cell P 1
  have k2 := blk_cell P 2
  simp at k0 k1 k2
  refine bodyPost_ret (v := .agg #[.int .u32 0, .int .u32 0, .bool false]) (by simp [results, Try.results55, go_sem, k0, k1, k2]) rfl ?_
  have R := H.out.off (Nat.le_refl _) HS5.out.1 HS5.out.2 (grown_set3 _ w.heap.size (.int .u32 0) (.int .u32 0) (.bool false))
  exact ⟨rfl, R.1, R.2⟩
set_option maxRecDepth 100000 in
set_option maxHeartbeats 1000000 in
theorem RLimits_no_ok (h : Rdr w g A c l a e) (h6 : l.length ≤ 6000) (b ba be m ma me n na ne : Int) (hb_ : amongM 107 [0, 1] l a e = (b, ba, be)) (hm_ : u32M l ba be = (m, ma, me)) (hx_ : u32M l ma me = (n, na, ne)) (hbb : b ≠ 1) (hte : me = 0) :
    Calls Try.prog 55 #[.pointer (some ⟨g, 0, none⟩)] w (RDid w g A c l (.agg #[.int .u32 m, .int .u32 0, .bool false]) ma me) := by
  have hu := Try.underlying22
  have hu86 := Try.underlying86
  have hb := below_alloc (Below.refl w.heap.size w) (.cells #[.int .u32 0, .int .u32 0, .bool false] 90)
  have h1 := h.below hb
  have AC := ramong_laid h1 107 (by decide) [0, 1] (by decide) 5
  rw [World.size_alloc, hb_] at AC
  replace AC := Aside0.mk AC
  have UC := Aside0.mk (fun W (hC : Rdr W g A c l ba be) => RUint_calls hC h6)
  have XC := Aside0.mk (fun W (hC : Rdr W g A c l ma me) => RUint_calls hC h6)
  have R1 := u32M_range l ba be
  have R2 := u32M_range l ma me
  rw [hm_] at UC R1
  rw [hx_] at XC R2
  simp only at AC UC XC R1 R2
  obtain ⟨m0, m1⟩ := R1
  obtain ⟨n0, n1⟩ := R2
  have GB := Aside0.mk (grown_of_below hb (some g))
  have q0 := heap_alloc_new w (.cells #[.int .u32 0, .int .u32 0, .bool false] 90)
  have Q := Aside0.mk (fun (W : World) (hW : (w.alloc (.cells #[.int .u32 0, .int .u32 0, .bool false] 90)).grownBy W (some g)) => cap_keep q0 (by have := h.lt; omega) hW)
  have H := Aside0.mk h
  have x1 := h1.c1
  have BK := Aside0.mk (fun (W : World) (hC : Rdr W g A c l ma me) => RBack_calls hC a h.lo h.hi)
  rw [if_pos hte] at BK
  have d1 : ((b : Int) == 1) = false := beq_eq_false_iff_ne.2 hbb
  have d2 : ((me : Int) != 0) = false := by rw [hte]; rfl
  clear h h1 hb q0 hb_ hm_ hx_ hbb hte
  go_enter Try.func55, Try.ntmps55
  go_wp2_with (first
      | (go_at_call 75; refine UC1.out.mono ?_; rintro e1 w2 ⟨rfl, hg, hc⟩
         have hg2 := grown_then HG.out hg
         have SZ2 := Aside0.mk (show w.heap.size < w2.heap.size from Nat.lt_of_lt_of_le SZ1.out hg.size)
         have hb2 := below_alloc (Below.refl w2.heap.size w2) (.cells #[.int .u32 m, .int .u32 0, .bool false] 90)
         have hgx := grown_then hg2 (grown_of_below hb2 (some g))
         have HGX := Aside0.mk hgx
         have QX := Aside0.mk (heap_alloc_new w2 (.cells #[.int .u32 m, .int .u32 0, .bool false] 90))
         have hcx := hc.below hb2
         have y2 := hcx.c2
         have q3 := Q.out _ hgx
         have Q3 := Aside0.mk q3
         have HS3 := Aside0.mk (And.intro (grown_then GB.out hgx) hcx)
         have z0 := (blk_cell q3 0).trans rfl
         have z1 := (blk_cell q3 1).trans rfl
         have z2 := (blk_cell q3 2).trans rfl
         have f0 := blk_frozen q3 0
         have f1 := blk_frozen q3 1
         have f2 := blk_frozen q3 2
         clear hg hc hg2 hgx hcx hb2 q3)
      | (go_at_call 74; refine AC.out.mono ?_; rintro e1 w1 ⟨rfl, hg, hc⟩; have HG := Aside0.mk hg; have UC1 := Aside0.mk (UC.out w1 hc); have SZ1 := Aside0.mk (show w.heap.size < w1.heap.size from Nat.lt_of_lt_of_le (by simp) hg.size); clear hg hc)
      | fail)
  have P := blk_put3 Q3.out (.int .u32 m) (.int .u32 0) (.bool false)
  have k0 := blk_cell P 0
  have k1 := blk_cell P 1
  have k2 := blk_cell P 2
  simp at k0 k1 k2
  refine bodyPost_ret (v := .agg #[.int .u32 m, .int .u32 0, .bool false]) (by simp [results, Try.results55, go_sem, k0, k1, k2]) rfl ?_
  have R := H.out.off (Nat.le_refl _) HS3.out.1 HS3.out.2 (grown_set3 _ w.heap.size (.int .u32 m) (.int .u32 0) (.bool false))
  exact ⟨rfl, R.1, R.2⟩
set_option maxRecDepth 100000 in
set_option maxHeartbeats 1000000 in
theorem RLimits_no_bad (h : Rdr w g A c l a e) (h6 : l.length ≤ 6000) (b ba be m ma me n na ne : Int) (hb_ : amongM 107 [0, 1] l a e = (b, ba, be)) (hm_ : u32M l ba be = (m, ma, me)) (hx_ : u32M l ma me = (n, na, ne)) (hbb : b ≠ 1) (hte : me ≠ 0) :
    Calls Try.prog 55 #[.pointer (some ⟨g, 0, none⟩)] w (RDid w g A c l (.agg #[.int .u32 0, .int .u32 0, .bool false]) a me) := by
  have hu := Try.underlying22
  have hu86 := Try.underlying86
  have hb := below_alloc (Below.refl w.heap.size w) (.cells #[.int .u32 0, .int .u32 0, .bool false] 90)
  have h1 := h.below hb
  have AC := ramong_laid h1 107 (by decide) [0, 1] (by decide) 5
  rw [World.size_alloc, hb_] at AC
  replace AC := Aside0.mk AC
  have UC := Aside0.mk (fun W (hC : Rdr W g A c l ba be) => RUint_calls hC h6)
  have XC := Aside0.mk (fun W (hC : Rdr W g A c l ma me) => RUint_calls hC h6)
  have R1 := u32M_range l ba be
  have R2 := u32M_range l ma me
  rw [hm_] at UC R1
  rw [hx_] at XC R2
  simp only at AC UC XC R1 R2
  obtain ⟨m0, m1⟩ := R1
  obtain ⟨n0, n1⟩ := R2
  have GB := Aside0.mk (grown_of_below hb (some g))
  have q0 := heap_alloc_new w (.cells #[.int .u32 0, .int .u32 0, .bool false] 90)
  have Q := Aside0.mk (fun (W : World) (hW : (w.alloc (.cells #[.int .u32 0, .int .u32 0, .bool false] 90)).grownBy W (some g)) => cap_keep q0 (by have := h.lt; omega) hW)
  have H := Aside0.mk h
  have x1 := h1.c1
  have BK := Aside0.mk (fun (W : World) (hC : Rdr W g A c l ma me) => RBack_calls hC a h.lo h.hi)
  rw [if_neg hte] at BK
  have d1 : ((b : Int) == 1) = false := beq_eq_false_iff_ne.2 hbb
  have d2 : ((me : Int) != 0) = true := by rw [bne_iff_ne]; exact hte
  clear h h1 hb q0 hb_ hm_ hx_ hbb hte
  go_enter Try.func55, Try.ntmps55
  go_wp2_with (first
      | (go_at_call 76; refine BK2.out.mono ?_; rintro e1 w5 ⟨rfl, hg, hc⟩
         have q5 := cap_keep Q3.out (by have := H.out.lt; omega) hg
         have Q5 := Aside0.mk q5
         have HS5 := Aside0.mk (And.intro (grown_then HS3.out.1 hg) hc)
         have z0 := (blk_cell q5 0).trans rfl
         have z1 := (blk_cell q5 1).trans rfl
         have z2 := (blk_cell q5 2).trans rfl
         have f0 := blk_frozen q5 0
         have f1 := blk_frozen q5 1
         have f2 := blk_frozen q5 2
         clear hg hc q5)
      | (go_at_call 75; refine UC1.out.mono ?_; rintro e1 w2 ⟨rfl, hg, hc⟩
         have hg2 := grown_then HG.out hg
         have SZ2 := Aside0.mk (show w.heap.size < w2.heap.size from Nat.lt_of_lt_of_le SZ1.out hg.size)
         have hb2 := below_alloc (Below.refl w2.heap.size w2) (.cells #[.int .u32 m, .int .u32 0, .bool false] 90)
         have hgx := grown_then hg2 (grown_of_below hb2 (some g))
         have HGX := Aside0.mk hgx
         have QX := Aside0.mk (heap_alloc_new w2 (.cells #[.int .u32 m, .int .u32 0, .bool false] 90))
         have hcx := hc.below hb2
         have y2 := hcx.c2
         have q3 := Q.out _ hgx
         have Q3 := Aside0.mk q3
         have HS3 := Aside0.mk (And.intro (grown_then GB.out hgx) hcx)
         have BK2 := Aside0.mk (BK.out _ hcx)
         clear hg hc hg2 hgx hcx hb2 q3)
      | (go_at_call 74; refine AC.out.mono ?_; rintro e1 w1 ⟨rfl, hg, hc⟩; have HG := Aside0.mk hg; have UC1 := Aside0.mk (UC.out w1 hc); have SZ1 := Aside0.mk (show w.heap.size < w1.heap.size from Nat.lt_of_lt_of_le (by simp) hg.size); clear hg hc)
      | fail)
  have P := blk_put3 Q5.out (.int .u32 0) (.int .u32 0) (.bool false)
  have k0 := blk_cell P 0
  have k1 := blk_cell P 1
  have k2 := blk_cell P 2
  simp at k0 k1 k2
  refine bodyPost_ret (v := .agg #[.int .u32 0, .int .u32 0, .bool false]) (by simp [results, Try.results55, go_sem, k0, k1, k2]) rfl ?_
  have R := H.out.off (Nat.le_refl _) HS5.out.1 HS5.out.2 (grown_set3 _ w.heap.size (.int .u32 0) (.int .u32 0) (.bool false))
  exact ⟨rfl, R.1, R.2⟩
theorem RLimits_calls (h : Rdr w g A c l a e) (h6 : l.length ≤ 6000) : Calls Try.prog 55 #[.pointer (some ⟨g, 0, none⟩)] w (RDid w g A c l (limV (limitsM l a e).1) (limitsM l a e).2.1 (limitsM l a e).2.2) := by
  rw [limitsM_is]
  unfold limT
  obtain ⟨⟨b, ba, be⟩, hb⟩ : ∃ u, amongM 107 [0, 1] l a e = u := ⟨_, rfl⟩
  obtain ⟨⟨m, ma, me⟩, hm⟩ : ∃ u, u32M l ba be = u := ⟨_, rfl⟩
  obtain ⟨⟨n, na, ne⟩, hx⟩ : ∃ u, u32M l ma me = u := ⟨_, rfl⟩
  simp only [hb, hm, hx]
  by_cases hbb : b = 1
  · simp only [if_pos hbb]
    by_cases hte : ne = 0
    · simp only [if_pos hte]
      exact RLimits_yes_ok h h6 b ba be m ma me n na ne hb hm hx hbb hte
    · simp only [if_neg hte]
      exact RLimits_yes_bad h h6 b ba be m ma me n na ne hb hm hx hbb hte
  · simp only [if_neg hbb]
    by_cases hte : me = 0
    · simp only [if_pos hte]
      exact RLimits_no_ok h h6 b ba be m ma me n na ne hb hm hx hbb hte
    · simp only [if_neg hte]
      exact RLimits_no_bad h h6 b ba be m ma me n na ne hb hm hx hbb hte
end
end Go.Proofs.Ytjhdnlgbboboiaa.Scan

/- The reader's Global, Table, Types, Func. -/
namespace Go.Proofs.Ytjhdnlgbboboiaa.Scan
open Go.Proofs.Ytjhdnlgbboboiaa.Leb Go.Proofs.Ytjhdnlgbboboiaa.Mem Go.RowKit Go.Proofs.YtjhdnlgbboboiaaW.PrintWords Go.Proofs.YtjhdnlgbboboiaaW.PrintLast Go.Proofs.YtjhdnlgbboboiaaW.PrintMore Go.Proofs.Ytjhdnlgbboboiaa.Base
set_option linter.unusedVariables false
set_option linter.unusedSimpArgs false
def gloT (l : List Int) (a e : Int) : (Int × Bool) × Int × Int :=
  let t := valueM l a e
  let m := amongM 107 [0, 1] l t.2.1 t.2.2
  ((t.1, m.1 == 1), m.2)
theorem globalM_is (l : List Int) (a e : Int) : globalM l a e = if (gloT l a e).2.2 = 0 then gloT l a e else ((0, false), a, (gloT l a e).2.2) := by
  by_cases he : e = 0
  · subst he
    unfold globalM readsM rM
    rw [if_pos rfl]
    rfl
  · have e2 : gloT l a e = ((0, false), a, e) := by
      unfold gloT valueM
      simp only [amongM_off _ _ _ _ _ he]
      rfl
    rw [e2]
    unfold globalM readsM
    rw [if_neg he]
    simp only [if_neg he]
def tabT (l : List Int) (a e : Int) : Lim × Int × Int :=
  let x := amongM 106 [112] l a e
  limitsM l x.2.1 x.2.2
theorem limitsM_zero (l : List Int) (a e : Int) (h : (limitsM l a e).2.2 ≠ 0) : (limitsM l a e).1 = (0, 0, false) := by
  rw [limitsM_is] at h ⊢
  by_cases ht : (limT l a e).2.2 = 0
  · rw [if_pos ht] at h; exact absurd ht h
  · rw [if_neg ht]
theorem tableM_is (l : List Int) (a e : Int) : tableM l a e = ((tabT l a e).1, if (tabT l a e).2.2 = 0 then (tabT l a e).2.1 else a, (tabT l a e).2.2) := by
  by_cases he : e = 0
  · subst he
    unfold tableM readsM rM
    rw [if_pos rfl]
    have e2 : tableB l a = tabT l a 0 := rfl
    rw [e2]
    by_cases ht : (tabT l a 0).2.2 = 0
    · rw [if_pos ht, if_pos ht]
    · rw [if_neg ht, if_neg ht]
      have : (tabT l a 0).1 = (0, 0, false) := limitsM_zero _ _ _ ht
      rw [this]
  · have e2 : tabT l a e = ((0, 0, false), a, e) := by
      unfold tabT limitsM readsM
      simp only [amongM_off _ _ _ _ _ he, if_neg he]
    rw [e2]
    unfold tableM readsM
    rw [if_neg he]
    simp only [if_neg he]
section
variable {w w2 W W' : World} {g c : Nat} {A : Option Addr} {l : List Int} {a e a1 e1 : Int}
set_option maxRecDepth 100000 in
set_option maxHeartbeats 1000000 in
theorem RGlobal_ok (h : Rdr w g A c l a e) (b ba be m ma me : Int) (hb_ : valueM l a e = (b, ba, be)) (hm_ : amongM 107 [0, 1] l ba be = (m, ma, me)) (hte : me = 0) :
    Calls Try.prog 57 #[.pointer (some ⟨g, 0, none⟩)] w (RDid w g A c l (.tuple #[.int .u8 b, .bool (m == 1)]) ma me) := by
  have hu := Try.underlying22
  have VC := RValue_calls h
  rw [hb_] at VC
  replace VC := Aside0.mk VC
  have AC := Aside0.mk (fun W (hC : Rdr W g A c l ba be) => ramong_laid hC 107 (by decide) [0, 1] (by decide) 5)
  rw [hm_] at AC
  simp only at VC AC
  have x1 := h.c1
  have BK := Aside0.mk (fun (W : World) (hC : Rdr W g A c l ma me) => RBack_calls hC a h.lo h.hi)
  rw [if_pos hte] at BK
  obtain ⟨hs, hhs⟩ : ∃ hs, hs = ((m : Int) == 1) := ⟨_, rfl⟩
  have d1 : ((m : Int) == 1) = hs := hhs.symm
  rw [d1]
  have d2 : ((me : Int) != 0) = false := by rw [hte]; rfl
  clear h hb_ hm_ hte hhs
  go_enter Try.func57, Try.ntmps57
  go_wp2_with (first
    | (go_at_call 79; refine VC.out.mono ?_; rintro e1 w1 ⟨rfl, hg, hc⟩; have HG := Aside0.mk hg; have AC2 := Aside0.mk (AC.out w1 hc); clear hg hc)
    | (go_at_call 74; refine AC2.out.mono ?_; rintro e1 w2 ⟨rfl, hg, hc⟩; have HG2 := Aside0.mk (grown_then HG.out hg); have y2 := hc.c2; have HC2 := Aside0.mk hc; have BK2 := Aside0.mk (BK.out _ hc); clear hg hc)
    | (go_at_call 76; refine BK2.out.mono ?_; rintro e1 w5 ⟨rfl, hg, hc⟩; have HG5 := Aside0.mk (grown_then HG2.out hg); have HC5 := Aside0.mk hc; clear hg hc)
    | fail)
  refine bodyPost_ret (v := .tuple #[.int .u8 b, .bool hs]) (by simp [results, Try.results57, go_sem]) rfl ?_
  exact ⟨rfl, HG2.out, HC2.out⟩
set_option maxRecDepth 100000 in
set_option maxHeartbeats 1000000 in
theorem RGlobal_bad (h : Rdr w g A c l a e) (b ba be m ma me : Int) (hb_ : valueM l a e = (b, ba, be)) (hm_ : amongM 107 [0, 1] l ba be = (m, ma, me)) (hte : me ≠ 0) :
    Calls Try.prog 57 #[.pointer (some ⟨g, 0, none⟩)] w (RDid w g A c l (.tuple #[.int .u8 0, .bool false]) a me) := by
  have hu := Try.underlying22
  have VC := RValue_calls h
  rw [hb_] at VC
  replace VC := Aside0.mk VC
  have AC := Aside0.mk (fun W (hC : Rdr W g A c l ba be) => ramong_laid hC 107 (by decide) [0, 1] (by decide) 5)
  rw [hm_] at AC
  simp only at VC AC
  have x1 := h.c1
  have BK := Aside0.mk (fun (W : World) (hC : Rdr W g A c l ma me) => RBack_calls hC a h.lo h.hi)
  rw [if_neg hte] at BK
  obtain ⟨hs, hhs⟩ : ∃ hs, hs = ((m : Int) == 1) := ⟨_, rfl⟩
  have d1 : ((m : Int) == 1) = hs := hhs.symm
  skip
  have d2 : ((me : Int) != 0) = true := by rw [bne_iff_ne]; exact hte
  clear h hb_ hm_ hte hhs
  go_enter Try.func57, Try.ntmps57
  go_wp2_with (first
    | (go_at_call 79; refine VC.out.mono ?_; rintro e1 w1 ⟨rfl, hg, hc⟩; have HG := Aside0.mk hg; have AC2 := Aside0.mk (AC.out w1 hc); clear hg hc)
    | (go_at_call 74; refine AC2.out.mono ?_; rintro e1 w2 ⟨rfl, hg, hc⟩; have HG2 := Aside0.mk (grown_then HG.out hg); have y2 := hc.c2; have HC2 := Aside0.mk hc; have BK2 := Aside0.mk (BK.out _ hc); clear hg hc)
    | (go_at_call 76; refine BK2.out.mono ?_; rintro e1 w5 ⟨rfl, hg, hc⟩; have HG5 := Aside0.mk (grown_then HG2.out hg); have HC5 := Aside0.mk hc; clear hg hc)
    | fail)
  refine bodyPost_ret (v := .tuple #[.int .u8 0, .bool false]) (by simp [results, Try.results57, go_sem]) rfl ?_
  exact ⟨rfl, HG5.out, HC5.out⟩
/-- A type and whether it may change, as two results. -/
def gloW (x : Int × Bool) : Value := .tuple #[.int .u8 x.1, .bool x.2]
theorem RGlobal_calls (h : Rdr w g A c l a e) : Calls Try.prog 57 #[.pointer (some ⟨g, 0, none⟩)] w (RDid w g A c l (gloW (globalM l a e).1) (globalM l a e).2.1 (globalM l a e).2.2) := by
  rw [globalM_is]
  unfold gloT gloW
  obtain ⟨⟨b, ba, be⟩, hb⟩ : ∃ u, valueM l a e = u := ⟨_, rfl⟩
  obtain ⟨⟨m, ma, me⟩, hm⟩ : ∃ u, amongM 107 [0, 1] l ba be = u := ⟨_, rfl⟩
  simp only [hb, hm]
  by_cases hte : me = 0
  · simp only [if_pos hte]
    exact RGlobal_ok h b ba be m ma me hb hm hte
  · simp only [if_neg hte]
    exact RGlobal_bad h b ba be m ma me hb hm hte
set_option maxRecDepth 100000 in
set_option maxHeartbeats 1000000 in
theorem RTable_calls (h : Rdr w g A c l a e) (h6 : l.length ≤ 6000) : Calls Try.prog 59 #[.pointer (some ⟨g, 0, none⟩)] w (RDid w g A c l (limV (tableM l a e).1) (tableM l a e).2.1 (tableM l a e).2.2) := by
  rw [tableM_is]
  unfold tabT
  have hu := Try.underlying22
  have hb := below_alloc (Below.refl w.heap.size w) (.cells #[.int .u32 0, .int .u32 0, .bool false] 90)
  have h1 := h.below hb
  have AC := ramong_laid h1 106 (by decide) [112] (by decide) 5
  rw [World.size_alloc] at AC
  replace AC := Aside0.mk AC
  obtain ⟨u, hu_⟩ : ∃ u, u = amongM 106 [112] l a e := ⟨_, rfl⟩
  rw [← hu_] at AC ⊢
  obtain ⟨b, ba, be⟩ := u
  simp only at AC ⊢
  have LC := Aside0.mk (fun W (hC : Rdr W g A c l ba be) => RLimits_calls hC h6)
  obtain ⟨y, hy⟩ : ∃ y, y = limitsM l ba be := ⟨_, rfl⟩
  rw [← hy] at LC ⊢
  obtain ⟨⟨v1, v2, v3⟩, ya, ye⟩ := y
  simp only [limV] at LC ⊢
  have BK := Aside0.mk (fun (W : World) (hC : Rdr W g A c l ya ye) => RBack_calls hC a h.lo h.hi)
  obtain ⟨fa, hfa⟩ : ∃ fa, fa = if ye = 0 then ya else a := ⟨_, rfl⟩
  rw [← hfa] at BK ⊢
  have GB := Aside0.mk (grown_of_below hb (some g))
  have q0 := heap_alloc_new w (.cells #[.int .u32 0, .int .u32 0, .bool false] 90)
  have Q := Aside0.mk (fun (W : World) (hW : (w.alloc (.cells #[.int .u32 0, .int .u32 0, .bool false] 90)).grownBy W (some g)) => cap_keep q0 (by have := h.lt; omega) hW)
  have H := Aside0.mk h
  have x1 := h1.c1
  clear h h1 hb q0 hu_ hy hfa
  go_enter Try.func59, Try.ntmps59
  go_wp2_with (first
      | (go_at_call 74; refine AC.out.mono ?_; rintro e1 w1 ⟨rfl, hg, hc⟩; have HG := Aside0.mk hg; have LC2 := Aside0.mk (LC.out w1 hc); clear hg hc)
      | (go_at_call 55; refine LC2.out.mono ?_; rintro e1 w2 ⟨rfl, hg, hc⟩
         have hb2 := below_alloc (Below.refl w2.heap.size w2) (.cells #[.int .u32 v1, .int .u32 v2, .bool v3] 90)
         have HG2 := Aside0.mk (grown_then (grown_then HG.out hg) (grown_of_below hb2 (some g)))
         have QX := Aside0.mk (heap_alloc_new w2 (.cells #[.int .u32 v1, .int .u32 v2, .bool v3] 90))
         have NE := Aside0.mk (show w2.heap.size ≠ g by have := hc.lt; omega)
         have BK2 := Aside0.mk (BK.out _ (hc.below hb2))
         clear hg hc hb2)
      | (go_at_call 76; refine BK2.out.mono ?_; rintro e1 w5 ⟨rfl, hg, hc⟩
         have q5 := Q.out w5 (grown_then HG2.out hg)
         have Q5 := Aside0.mk q5
         have x5 := cap_keep QX.out NE.out hg
         have u0 := (blk_cell x5 0).trans rfl
         have u1 := (blk_cell x5 1).trans rfl
         have u2 := (blk_cell x5 2).trans rfl
         have z0 := (blk_cell q5 0).trans rfl
         have z1 := (blk_cell q5 1).trans rfl
         have z2 := (blk_cell q5 2).trans rfl
         have f0 := blk_frozen q5 0
         have f1 := blk_frozen q5 1
         have f2 := blk_frozen q5 2
         have HG5 := Aside0.mk (grown_then HG2.out hg)
         have HC5 := Aside0.mk hc
         clear hg hc q5 x5)
      | fail)
  have P := blk_put3 Q5.out (.int .u32 v1) (.int .u32 v2) (.bool v3)
  have k0 := blk_cell P 0
  have k1 := blk_cell P 1
  have k2 := blk_cell P 2
  simp at k0 k1 k2
  refine bodyPost_ret (v := .agg #[.int .u32 v1, .int .u32 v2, .bool v3]) (by simp [results, Try.results59, go_sem, k0, k1, k2]) rfl ?_
  have R := H.out.off (Nat.le_refl _) (grown_then GB.out HG5.out) HC5.out (grown_set3 _ w.heap.size (.int .u32 v1) (.int .u32 v2) (.bool v3))
  exact ⟨rfl, R.1, R.2⟩
/-- Bytes appended, and what else is kept. -/
theorem rlist_step {w w1 w3 : World} {out v1 : Value} {xs : List Int} {x : Int} {a1 e1 : Int} (ho : ∀ b, out.ownBlock = some b → w.heap.size ≤ b) (H0 : Rdr w g A c l a e) (hg : w.grownBy w1 (some g)) (hc : Rdr w1 g A c l a1 e1)
    {i : Nat} (hi : xs.length = i) (h1 : Loose w3 5 1 v1 (i + 1) (encs (Value.int .u8) xs ++ [.int .u8 x])) (h2 : w1.grownBy w3 out.ownBlock) (h3 : v1.ownBlock = out.ownBlock ∨ ∃ b, v1.ownBlock = some b ∧ w1.heap.size ≤ b) :
    ∃ Ao co, v1 = .slice Ao (i + 1) co ∧ (∀ b, v1.ownBlock = some b → w.heap.size ≤ b) ∧ Loose w3 5 1 v1 (i + 1) (encs (Value.int .u8) (xs ++ [x])) ∧ w.grownBy w3 (some g) ∧ Rdr w3 g A c l a1 e1 := by
  have h4 : Loose w3 5 1 v1 (i + 1) (encs (Value.int .u8) (xs ++ [x])) := by
    rw [show encs (Value.int .u8) (xs ++ [x]) = encs (Value.int .u8) xs ++ [.int .u8 x] from by simp [encs]]
    exact h1
  obtain ⟨Ao, co, ev, _⟩ := Loose.C (h1 := fun _ => rfl) (show Loose w3 5 1 v1 (xs ++ [x]).length (encs (Value.int .u8) (xs ++ [x])) by rw [List.length_append, hi]; exact h4)
  refine ⟨Ao, co, by rw [ev, List.length_append, hi]; rfl, fun b hb => ?_, h4, ?_⟩
  · rcases h3 with h | ⟨b', h, hle⟩
    · exact ho b (by rw [← h]; exact hb)
    · rw [h] at hb
      injection hb with hb
      have := hg.size
      omega
  · cases hb : out.ownBlock with
    | none =>
      rw [hb] at h2
      have G := grown_none h2 (some w1.heap.size)
      exact H0.off hg.size hg hc G
    | some t =>
      rw [hb] at h2
      exact H0.off (ho t hb) hg hc h2
set_option maxRecDepth 100000 in
set_option maxHeartbeats 2000000 in
theorem RTypes_calls (h : Rdr w g A c l a e) (h6 : l.length ≤ 6000) : Calls Try.prog 81 #[.pointer (some ⟨g, 0, none⟩)] w (RDidP w g A c l (BytesP w.heap.size (listM l a e).1) (listM l a e).2.1 (listM l a e).2.2) := by
  have hu := Try.underlying22
  have CC := Aside0.mk (RCount_calls h h6)
  have CR := countM_range l a e
  unfold listM
  obtain ⟨u, hu_⟩ : ∃ u, u = countM l a e := ⟨_, rfl⟩
  rw [← hu_] at CC CR ⊢
  obtain ⟨n, ca, ce⟩ := u
  simp only at CC CR ⊢
  obtain ⟨N, rfl⟩ := Int.eq_ofNat_of_zero_le CR.1
  rw [show ((N : Int)).toNat = N from rfl]
  obtain ⟨r, hr⟩ : ∃ r, r = listL l N [] ca ce := ⟨_, rfl⟩
  rw [← hr]
  have HR := Aside0.mk hr
  have H0 := Aside0.mk h
  have CR4 := Aside0.mk (show N ≤ 4096 by omega)
  have hN : (N : Int) ≤ 4096 := CR.2
  clear h h6 CR hu_ hr
  go_enter Try.func81, Try.ntmps81
  go_wp2_with (first
    | (go_at_call 94; refine CC.out.mono ?_; rintro e1 w1 ⟨rfl, hg, hc⟩; have HG := Aside0.mk hg; have HC := Aside0.mk hc; clear hg hc)
    | fail)
  go_loopg [3, 5] N (fun d v5 v7 w' => ∃ (i : Nat) (xs : List Int) (a1 e1 : Int) (Ao : Option Addr) (co : Nat), v5 = .slice Ao i co ∧ v7 = .int .i64 (i : Int) ∧ Aside0 (i + d = N ∧ xs.length = i) ∧ Aside0 (∀ b, (Value.slice Ao i co).ownBlock = some b → w.heap.size ≤ b) ∧ Aside0 (Loose w' 5 1 (.slice Ao i co) i (encs (Value.int .u8) xs)) ∧ Aside0 (w.grownBy w' (some g)) ∧ Aside0 (Rdr w' g A c l a1 e1) ∧ Aside0 (r = listL l d xs a1 e1))
  case atStart => exact ⟨0, [], ca, ce, none, 0, rfl, rfl, ⟨by omega, rfl⟩, ⟨fun b hb => by cases hb⟩, ⟨Loose.nil _ _ _⟩, HG, HC, HR⟩
  case round =>
    obtain ⟨i, xs, a1, e1, Ao, co, rfl, rfl, HD, HO, HL, HGW, HCW, HRR⟩ := hrel
    have hd := HD.out
    cases gk with
    | zero =>
      have e2 : decide (i < N) = false := decide_eq_false (by omega)
      have e3 : decide ((i : Int) < (N : Int)) = false := decide_eq_false (by omega)
      have hR := HRR.out
      unfold listL at hR
      have HR2 := Aside0.mk hR
      clear hR hd
      go_wp2
      go_ret
      refine ⟨_, rfl, ?_, HGW.out, by rw [HR2.out]; exact HCW.out⟩
      rw [HR2.out]
      exact loose_bytes (by rw [HD.out.2]; exact HL.out) HO.out
    | succ d =>
      have hi : i < N := by omega
      have hiI : (i : Int) < (N : Int) := by omega
      have e2 : decide ((i : Int) < (N : Int)) = true := decide_eq_true hiI
      have y2 := HCW.out.c2
      by_cases he : e1 = 0
      · subst he
        have hR := HRR.out
        unfold listL at hR
        rw [if_pos rfl] at hR
        have VC := Aside0.mk (RValue_calls HCW.out)
        obtain ⟨x, hx⟩ : ∃ x, x = valueM l a1 0 := ⟨_, rfl⟩
        rw [← hx] at hR VC
        obtain ⟨x, xa, xe⟩ := x
        simp only at hR VC
        have HR2 := Aside0.mk hR
        have LI := Aside0.mk (show (i + 1) * 1 ≤ 140737488355328 by have := CR4.out; omega)
        clear hR hd hx
        go_wp2_with (first
          | (go_at_call 79; refine VC.out.mono ?_; rintro e3 w4 ⟨rfl, hg, hc⟩
             have hb4 := below_alloc (Below.refl w4.heap.size w4) (.cells #[.int .u8 x] 5)
             have HG4 := Aside0.mk (grown_then (grown_then HGW.out hg) (grown_of_below hb4 (some g)))
             have HC4 := Aside0.mk (hc.below hb4)
             have HL4 := Aside0.mk ((HL.out.move (fun k hk => hg.block k (HL.out.lt k hk) (fun e => by have := Option.some.inj e; have := HO.out k hk; have := H0.out.lt; omega))).move (fun k hk => hb4.block k (Nat.lt_of_lt_of_le (HL.out.lt k hk) hg.size)))
             have RW := Aside0.mk (raw_one _ _ x 5 (heap_alloc_new w4 (.cells #[.int .u8 x] 5)))
             clear hg hc hb4)
          | (at_builtin
             refine loose_append rfl (.tmp 20) (.tmp 23) 22 5 (.int .u8 0) 1 1 rfl Try.underlying22 info5 rfl (by decide) (by decide) (.slice Ao i co) i (encs (Value.int .u8) xs) (some ⟨w4.heap.size, 0, none⟩) 1 1 [.int .u8 x] (by simp [Act.eval, Act.put]) (by simp [Act.eval, Act.put]) HL4.out RW.out LI.out ?_
             intro v1 w5 h1 h2 h3
             have LS := Aside0.mk (rlist_step HO.out H0.out HG4.out HC4.out HD.out.2 h1 h2 h3)
             clear h1 h2 h3)
          | fail)
        go_roundg d
        case measure => omega
        case rel =>
          obtain ⟨Ao', co', ev, ho, hl, hg, hc⟩ := LS.out
          exact ⟨i + 1, xs ++ [x], xa, xe, Ao', co', ev, by push_cast; rfl, ⟨by have := HD.out; omega, by rw [List.length_append, HD.out.2]; rfl⟩, ⟨by rw [← ev]; exact ho⟩, ⟨by rw [← ev]; exact hl⟩, ⟨hg⟩, ⟨hc⟩, HR2⟩
      · have hR := HRR.out
        rw [listL_off _ _ _ _ _ he] at hR
        have HR2 := Aside0.mk hR
        have d3 : ((e1 : Int) == 0) = false := beq_eq_false_iff_ne.2 he
        clear hR hd he
        go_wp2
        go_ret
        refine ⟨_, rfl, ?_, HGW.out, by rw [HR2.out]; exact HCW.out⟩
        rw [HR2.out]
        exact loose_bytes (by rw [HD.out.2]; exact HL.out) HO.out
def funT (l : List Int) (a e : Int) : (List Int × List Int) × Int × Int :=
  let x := amongM 107 [96] l a e
  let p := listM l x.2.1 x.2.2
  let q := listM l p.2.1 p.2.2
  ((p.1, q.1), q.2)
theorem countM_off (l : List Int) (a e : Int) (he : e ≠ 0) : countM l a e = (0, a, e) := by unfold countM readsM; rw [if_neg he]
theorem listM_off (l : List Int) (a e : Int) (he : e ≠ 0) : listM l a e = ([], a, e) := by
  unfold listM
  rw [countM_off l a e he]
  rfl
theorem funcM_is (l : List Int) (a e : Int) : funcM l a e = if (funT l a e).2.2 = 0 then funT l a e else (([], []), a, (funT l a e).2.2) := by
  by_cases he : e = 0
  · subst he
    unfold funcM readsM rM
    rw [if_pos rfl]
    rfl
  · have e2 : funT l a e = (([], []), a, e) := by
      unfold funT
      simp only [amongM_off _ _ _ _ _ he, listM_off _ _ _ he]
    rw [e2]
    unfold funcM readsM
    rw [if_neg he]
    simp only [if_neg he]
/-- Two rows of bytes, new since lo, as two results. -/
def FuncW (lo : Nat) (ps qs : List Int) (r : Value) (w' : World) : Prop := ∃ A1 c1 A2 c2, r = .tuple #[.slice A1 ps.length c1, .slice A2 qs.length c2] ∧ (ps.length ≤ c1 ∧ qs.length ≤ c2) ∧ Kd.F ku w' (fun k => lo ≤ k ∧ k < w'.heap.size) A1 ps.length ps ∧ Kd.F ku w' (fun k => lo ≤ k ∧ k < w'.heap.size) A2 qs.length qs
theorem FuncW.nil (lo : Nat) (w' : World) : FuncW lo [] [] (.tuple #[.slice none 0 0, .slice none 0 0]) w' := ⟨none, 0, none, 0, rfl, ⟨Nat.le_refl _, Nat.le_refl _⟩, fun W' _ => Kd.C_nil _ W', fun W' _ => Kd.C_nil _ W'⟩
set_option maxRecDepth 100000 in
set_option maxHeartbeats 1000000 in
theorem RFunc_ok (h : Rdr w g A c l a e) (h6 : l.length ≤ 6000) (b ba be : Int) (ps qs : List Int) (pa pe qa qe : Int) (hb_ : amongM 107 [96] l a e = (b, ba, be)) (hp_ : listM l ba be = (ps, pa, pe)) (hq_ : listM l pa pe = (qs, qa, qe)) (hte : qe = 0) :
    Calls Try.prog 60 #[.pointer (some ⟨g, 0, none⟩)] w (RDidP w g A c l (FuncW w.heap.size ps qs) qa qe) := by
  have hu := Try.underlying22
  have AC := ramong_laid h 107 (by decide) [96] (by decide) 5
  rw [hb_] at AC
  replace AC := Aside0.mk AC
  have PC := Aside0.mk (fun W (hC : Rdr W g A c l ba be) => RTypes_calls hC h6)
  rw [hp_] at PC
  have QC := Aside0.mk (fun W (hC : Rdr W g A c l pa pe) => RTypes_calls hC h6)
  rw [hq_] at QC
  simp only at AC PC QC
  have x1 := h.c1
  have LT := Aside0.mk h.lt
  have BK := Aside0.mk (fun (W : World) (hC : Rdr W g A c l qa qe) => RBack_calls hC a h.lo h.hi)
  rw [if_pos hte] at BK
  have d2 : ((qe : Int) != 0) = false := by rw [hte]; rfl
  clear h hb_ hp_ hq_ hte h6
  go_enter Try.func60, Try.ntmps60
  go_wp2_with (first
      | (go_at_call 81; refine QC2.out.mono ?_; rintro e1 w3 ⟨r2, rfl, ⟨A2, c2, rfl, hc2, hf2⟩, hg, hc⟩
         have HG3 := Aside0.mk (grown_then HG2.out hg)
         have HF2 := Aside0.mk (And.intro hc2 (Kd.F_mono hf2 (ok' := fun k => w.heap.size ≤ k ∧ k < w3.heap.size) fun k hk => ⟨Nat.le_trans HG2.out.size hk.1, hk.2⟩))
         have HF1b := Aside0.mk (new_keep HF1.out.2 hg LT.out)
         have y2 := hc.c2
         have HC3 := Aside0.mk hc
         have BK2 := Aside0.mk (BK.out _ hc)
         clear hg hc hf2 hc2)
      | (go_at_call 81; refine PC2.out.mono ?_; rintro e1 w2 ⟨r1, rfl, ⟨A1, c1, rfl, hc1, hf1⟩, hg, hc⟩
         have HF1 := Aside0.mk (And.intro hc1 (Kd.F_mono hf1 (ok' := fun k => w.heap.size ≤ k ∧ k < w2.heap.size) fun k hk => ⟨Nat.le_trans HG.out.size hk.1, hk.2⟩))
         have HG2 := Aside0.mk (grown_then HG.out hg)
         have QC2 := Aside0.mk (QC.out w2 hc)
         clear hg hc hf1 hc1)
      | (go_at_call 74; refine AC.out.mono ?_; rintro e1 w1 ⟨rfl, hg, hc⟩; have HG := Aside0.mk hg; have PC2 := Aside0.mk (PC.out w1 hc); clear hg hc)
      | (go_at_call 76; refine BK2.out.mono ?_; rintro e1 w5 ⟨rfl, hg, hc⟩; have HG5 := Aside0.mk (grown_then HG3.out hg); have HC5 := Aside0.mk hc; clear hg hc)
      | fail)
  refine bodyPost_ret (v := .tuple #[.slice A1 ps.length c1, .slice A2 qs.length c2]) (by simp [results, Try.results60, go_sem]) rfl ?_
  exact ⟨_, rfl, ⟨A1, c1, A2, c2, rfl, ⟨HF1.out.1, HF2.out.1⟩, HF1b.out, HF2.out.2⟩, HG3.out, HC3.out⟩
set_option maxRecDepth 100000 in
set_option maxHeartbeats 1000000 in
theorem RFunc_bad (h : Rdr w g A c l a e) (h6 : l.length ≤ 6000) (b ba be : Int) (ps qs : List Int) (pa pe qa qe : Int) (hb_ : amongM 107 [96] l a e = (b, ba, be)) (hp_ : listM l ba be = (ps, pa, pe)) (hq_ : listM l pa pe = (qs, qa, qe)) (hte : qe ≠ 0) :
    Calls Try.prog 60 #[.pointer (some ⟨g, 0, none⟩)] w (RDidP w g A c l (FuncW w.heap.size [] []) a qe) := by
  have hu := Try.underlying22
  have AC := ramong_laid h 107 (by decide) [96] (by decide) 5
  rw [hb_] at AC
  replace AC := Aside0.mk AC
  have PC := Aside0.mk (fun W (hC : Rdr W g A c l ba be) => RTypes_calls hC h6)
  rw [hp_] at PC
  have QC := Aside0.mk (fun W (hC : Rdr W g A c l pa pe) => RTypes_calls hC h6)
  rw [hq_] at QC
  simp only at AC PC QC
  have x1 := h.c1
  have LT := Aside0.mk h.lt
  have BK := Aside0.mk (fun (W : World) (hC : Rdr W g A c l qa qe) => RBack_calls hC a h.lo h.hi)
  rw [if_neg hte] at BK
  have d2 : ((qe : Int) != 0) = true := by rw [bne_iff_ne]; exact hte
  clear h hb_ hp_ hq_ hte h6
  go_enter Try.func60, Try.ntmps60
  go_wp2_with (first
      | (go_at_call 81; refine QC2.out.mono ?_; rintro e1 w3 ⟨r2, rfl, ⟨A2, c2, rfl, hc2, hf2⟩, hg, hc⟩
         have HG3 := Aside0.mk (grown_then HG2.out hg)
         have HF2 := Aside0.mk (And.intro hc2 (Kd.F_mono hf2 (ok' := fun k => w.heap.size ≤ k ∧ k < w3.heap.size) fun k hk => ⟨Nat.le_trans HG2.out.size hk.1, hk.2⟩))
         have HF1b := Aside0.mk (new_keep HF1.out.2 hg LT.out)
         have y2 := hc.c2
         have HC3 := Aside0.mk hc
         have BK2 := Aside0.mk (BK.out _ hc)
         clear hg hc hf2 hc2)
      | (go_at_call 81; refine PC2.out.mono ?_; rintro e1 w2 ⟨r1, rfl, ⟨A1, c1, rfl, hc1, hf1⟩, hg, hc⟩
         have HF1 := Aside0.mk (And.intro hc1 (Kd.F_mono hf1 (ok' := fun k => w.heap.size ≤ k ∧ k < w2.heap.size) fun k hk => ⟨Nat.le_trans HG.out.size hk.1, hk.2⟩))
         have HG2 := Aside0.mk (grown_then HG.out hg)
         have QC2 := Aside0.mk (QC.out w2 hc)
         clear hg hc hf1 hc1)
      | (go_at_call 74; refine AC.out.mono ?_; rintro e1 w1 ⟨rfl, hg, hc⟩; have HG := Aside0.mk hg; have PC2 := Aside0.mk (PC.out w1 hc); clear hg hc)
      | (go_at_call 76; refine BK2.out.mono ?_; rintro e1 w5 ⟨rfl, hg, hc⟩; have HG5 := Aside0.mk (grown_then HG3.out hg); have HC5 := Aside0.mk hc; clear hg hc)
      | fail)
  refine bodyPost_ret (v := .tuple #[.slice none 0 0, .slice none 0 0]) (by simp [results, Try.results60, go_sem]) rfl ?_
  exact ⟨_, rfl, FuncW.nil _ _, HG5.out, HC5.out⟩
theorem RFunc_calls (h : Rdr w g A c l a e) (h6 : l.length ≤ 6000) : Calls Try.prog 60 #[.pointer (some ⟨g, 0, none⟩)] w (RDidP w g A c l (FuncW w.heap.size (funcM l a e).1.1 (funcM l a e).1.2) (funcM l a e).2.1 (funcM l a e).2.2) := by
  rw [funcM_is]
  unfold funT
  obtain ⟨⟨b, ba, be⟩, hb⟩ : ∃ u, amongM 107 [96] l a e = u := ⟨_, rfl⟩
  obtain ⟨⟨ps, pa, pe⟩, hp⟩ : ∃ u, listM l ba be = u := ⟨_, rfl⟩
  obtain ⟨⟨qs, qa, qe⟩, hq⟩ : ∃ u, listM l pa pe = u := ⟨_, rfl⟩
  simp only [hb, hp, hq]
  by_cases hte : qe = 0
  · simp only [if_pos hte]
    exact RFunc_ok h h6 b ba be ps qs pa pe qa qe hb hp hq hte
  · simp only [if_neg hte]
    exact RFunc_bad h h6 b ba be ps qs pa pe qa qe hb hp hq hte
end
end Go.Proofs.Ytjhdnlgbboboiaa.Scan

/- A cursor and a reader at once; the walk of small. -/
namespace Go.Proofs.Ytjhdnlgbboboiaa.Scan
open Go.Proofs.Ytjhdnlgbboboiaa.Leb Go.Proofs.Ytjhdnlgbboboiaa.Mem Go.RowKit Go.Proofs.YtjhdnlgbboboiaaW.PrintWords Go.Proofs.YtjhdnlgbboboiaaW.PrintLast Go.Proofs.YtjhdnlgbboboiaaW.PrintMore Go.Proofs.Ytjhdnlgbboboiaa.Base
set_option linter.unusedVariables false
set_option linter.unusedSimpArgs false
structure Both (W : World) (g r : Nat) (A : Option Addr) (c : Nat) (l : List Int) (a e : Int) (A' : Option Addr) (c' : Nat) (l' : List Int) (a' e' : Int) : Prop where
  ne : g ≠ r
  boxC : W.heap[g]? = some (.cells #[.slice A l.length c, .int .i64 a, .int .i64 e] 68 (0, 0))
  boxR : W.heap[r]? = some (.cells #[.slice A' l'.length c', .int .i64 a', .int .i64 e'] 57 (0, 0))
  bC : Kd.F ku W (fun k => k ≠ g ∧ k ≠ r) A l.length l
  bR : Kd.F ku W (fun k => k ≠ g ∧ k ≠ r) A' l'.length l'
  capC : l.length ≤ c
  capR : l'.length ≤ c'
  loC : 0 ≤ a
  hiC : a ≤ (l.length : Int)
  loR : 0 ≤ a'
  hiR : a' ≤ (l'.length : Int)
  okC : okB l
  okR : okB l'
  smC : l.length ≤ 1000000
  h6 : l'.length ≤ 6000
/-- What is kept: all blocks but two. -/
structure Grown2 (w w' : World) (g r : Nat) : Prop where
  os : w'.os = w.os
  tape : w'.tape = w.tape
  output : w'.output = w.output
  size : w.heap.size ≤ w'.heap.size
  block : ∀ i, i < w.heap.size → i ≠ g → i ≠ r → w'.heap[i]? = w.heap[i]?
section
variable {w w1 w2 W W' : World} {g r c c' : Nat} {A A' : Option Addr} {l l' : List Int} {a e a' e' a1 e1 : Int}
theorem Grown2.refl (w : World) (g r : Nat) : Grown2 w w g r := ⟨rfl, rfl, rfl, Nat.le_refl _, fun _ _ _ _ => rfl⟩
theorem Grown2.byC (h : Grown2 w w1 g r) (k : w1.grownBy w2 (some g)) : Grown2 w w2 g r := ⟨k.os.trans h.os, k.tape.trans h.tape, k.output.trans h.output, Nat.le_trans h.size k.size, fun i hi h1 h2 => (k.block i (Nat.lt_of_lt_of_le hi h.size) (fun e => h1 (Option.some.inj e))).trans (h.block i hi h1 h2)⟩
theorem Grown2.byR (h : Grown2 w w1 g r) (k : w1.grownBy w2 (some r)) : Grown2 w w2 g r := ⟨k.os.trans h.os, k.tape.trans h.tape, k.output.trans h.output, Nat.le_trans h.size k.size, fun i hi h1 h2 => (k.block i (Nat.lt_of_lt_of_le hi h.size) (fun e => h2 (Option.some.inj e))).trans (h.block i hi h1 h2)⟩
theorem Grown2.below (h : Grown2 w w1 g r) (k : Below w1.heap.size w1 w2) : Grown2 w w2 g r := h.byC (grown_of_below k _)
theorem Grown2.trans (h : Grown2 w w1 g r) (k : Grown2 w1 w2 g r) : Grown2 w w2 g r := ⟨k.os.trans h.os, k.tape.trans h.tape, k.output.trans h.output, Nat.le_trans h.size k.size, fun i hi h1 h2 => (k.block i (Nat.lt_of_lt_of_le hi h.size) h1 h2).trans (h.block i hi h1 h2)⟩
theorem Both.cur (h : Both W g r A c l a e A' c' l' a' e') : Cur W g A c l a e := ⟨h.boxC, Kd.F_mono h.bC fun k hk => hk.1, h.capC, h.loC, h.hiC, h.okC, h.smC⟩
theorem Both.rdr (h : Both W g r A c l a e A' c' l' a' e') : Rdr W r A' c' l' a' e' := ⟨h.boxR, Kd.F_mono h.bR fun k hk => hk.2, h.capR, h.loR, h.hiR, h.okR, Nat.le_trans h.h6 (by decide)⟩
theorem Both.didC (h : Both W g r A c l a e A' c' l' a' e') (hg : W.grownBy W' (some g)) (hc : Cur W' g A c l a1 e1) : Both W' g r A c l a1 e1 A' c' l' a' e' :=
  ⟨h.ne, hc.box, (hg.block r (blk_lt h.boxR) (fun e => h.ne (Option.some.inj e).symm)).trans h.boxR, Kd.F_step h.bC fun k hk hlt => hg.block k hlt (fun e => hk.1 (Option.some.inj e)), Kd.F_step h.bR fun k hk hlt => hg.block k hlt (fun e => hk.1 (Option.some.inj e)),
    h.capC, h.capR, hc.lo, hc.hi, h.loR, h.hiR, h.okC, h.okR, h.smC, h.h6⟩
theorem Both.didR (h : Both W g r A c l a e A' c' l' a' e') (hg : W.grownBy W' (some r)) (hc : Rdr W' r A' c' l' a1 e1) : Both W' g r A c l a e A' c' l' a1 e1 :=
  ⟨h.ne, (hg.block g (blk_lt h.boxC) (fun e => h.ne (Option.some.inj e))).trans h.boxC, hc.box, Kd.F_step h.bC fun k hk hlt => hg.block k hlt (fun e => hk.2 (Option.some.inj e)), Kd.F_step h.bR fun k hk hlt => hg.block k hlt (fun e => hk.2 (Option.some.inj e)),
    h.capC, h.capR, h.loC, h.hiC, hc.lo, hc.hi, h.okC, h.okR, h.smC, h.h6⟩
theorem Both.below (h : Both W g r A c l a e A' c' l' a' e') (hb : Below W.heap.size W W') : Both W' g r A c l a e A' c' l' a' e' := h.didC (grown_of_below hb _) (h.cur.below hb)
end
/-- What an op leaves, and that it answers alike where both stand alike. -/
def ReadP (w : World) (g r : Nat) (A : Option Addr) (c : Nat) (l : List Int) (s : Int × Int) (A' : Option Addr) (c' : Nat) (l' : List Int) (s' : Int × Int) (same : Prop) (en : Ending) (w' : World) : Prop :=
  ∃ bv, en = .returned (.bool bv) ∧ (same → bv = true) ∧ Grown2 w w' g r ∧ Both w' g r A c l s.1 s.2 A' c' l' s'.1 s'.2
section
variable {w w1 w2 W W' : World} {g r c c' : Nat} {A A' : Option Addr} {l l' : List Int} {a e a' e' a1 e1 : Int}
theorem s32M_range (l : List Int) (a e : Int) : 0 ≤ (s32M l a e).1 ∧ (s32M l a e).1 < 4294967296 := by
  unfold s32M readsM rM s32B
  repeat' split
  all_goals (simp only; omega)
set_option maxRecDepth 100000 in
set_option maxHeartbeats 1000000 in
theorem small_1 (h : Both w g r A c l a e A' c' l' a' e') (n : Int) : Calls Try.prog 62 #[.pointer (some ⟨g, 0, none⟩), .pointer (some ⟨r, 0, none⟩), .agg #[.int .i64 1, .int .i64 n]] w (ReadP w g r A c l (byteM l a e).2 A' c' l' (byteM l' a' e').2 (l = l' ∧ a = a' ∧ e = e')) := by
  have hb := below_alloc (Below.refl w.heap.size w) (.cells #[.int .i64 1, .int .i64 n] 59)
  have h1 := h.below hb
  have hu86 := Try.underlying86
  have CC := Aside0.mk (Byte_calls h1.cur)
  have RC := Aside0.mk (fun (W : World) (hW : (w.alloc (.cells #[.int .i64 1, .int .i64 n] 59)).grownBy W (some g)) (x y : Int) (hC : Cur W g A c l x y) => RByte_calls (h1.didC hW hC).rdr)
  have B := Aside0.mk h1
  have GB := Aside0.mk ((Grown2.refl w g r).below hb)
  have SM := Aside0.mk (show (l = l' ∧ a = a' ∧ e = e') → byteM l a e = byteM l' a' e' from fun h => by rw [h.1, h.2.1, h.2.2])
  obtain ⟨u, hu_⟩ : ∃ u, u = byteM l a e := ⟨_, rfl⟩
  obtain ⟨v, hv_⟩ : ∃ v, v = byteM l' a' e' := ⟨_, rfl⟩
  rw [← hu_] at CC SM ⊢
  rw [← hv_] at RC SM ⊢
  obtain ⟨u, ua, ue⟩ := u
  obtain ⟨v, va, ve⟩ := v
  simp only at CC RC SM ⊢
  clear h h1 hb hu_ hv_
  go_enter Try.func62, Try.ntmps62
  go_wp2_with (first
    | (go_at_call 82; refine CC.out.mono ?_; rintro e1 w1 ⟨rfl, hg, hc⟩; have B1 := Aside0.mk (B.out.didC hg hc); have GB1 := Aside0.mk (GB.out.byC hg); have RC1 := Aside0.mk (RC.out w1 hg _ _ hc); clear hg hc)
    | (go_at_call 83; refine RC1.out.mono ?_; rintro e1 w2 ⟨rfl, hg, hc⟩; have B2 := Aside0.mk (B1.out.didR hg hc); have GB2 := Aside0.mk (GB1.out.byR hg); clear hg hc)
    | fail)
  go_ret
  exact ⟨_, rfl, fun hs => by have := SM.out hs; injection this with h1 h2; simp [h1], GB2.out, B2.out⟩
set_option maxRecDepth 100000 in
set_option maxHeartbeats 1000000 in
theorem small_2 (h : Both w g r A c l a e A' c' l' a' e') (n : Int) : Calls Try.prog 62 #[.pointer (some ⟨g, 0, none⟩), .pointer (some ⟨r, 0, none⟩), .agg #[.int .i64 2, .int .i64 n]] w (ReadP w g r A c l (u32M l a e).2 A' c' l' (u32M l' a' e').2 (l = l' ∧ a = a' ∧ e = e')) := by
  have hb := below_alloc (Below.refl w.heap.size w) (.cells #[.int .i64 2, .int .i64 n] 59)
  have h1 := h.below hb
  have hu86 := Try.underlying86
  have CC := Aside0.mk (U32_calls h1.cur)
  have RC := Aside0.mk (fun (W : World) (hW : (w.alloc (.cells #[.int .i64 2, .int .i64 n] 59)).grownBy W (some g)) (x y : Int) (hC : Cur W g A c l x y) => RUint_calls (h1.didC hW hC).rdr h.h6)
  have B := Aside0.mk h1
  have GB := Aside0.mk ((Grown2.refl w g r).below hb)
  have SM := Aside0.mk (show (l = l' ∧ a = a' ∧ e = e') → u32M l a e = u32M l' a' e' from fun h => by rw [h.1, h.2.1, h.2.2])
  have UR := u32M_range l a e
  obtain ⟨u, hu_⟩ : ∃ u, u = u32M l a e := ⟨_, rfl⟩
  obtain ⟨v, hv_⟩ : ∃ v, v = u32M l' a' e' := ⟨_, rfl⟩
  rw [← hu_] at CC SM UR ⊢
  rw [← hv_] at RC SM ⊢
  obtain ⟨u, ua, ue⟩ := u
  obtain ⟨v, va, ve⟩ := v
  simp only at CC RC SM UR ⊢
  obtain ⟨UR0, UR1⟩ := UR
  clear h h1 hb hu_ hv_
  go_enter Try.func62, Try.ntmps62
  go_wp2_with (first
    | (go_at_call 73; refine CC.out.mono ?_; rintro e1 w1 ⟨rfl, hg, hc⟩; have B1 := Aside0.mk (B.out.didC hg hc); have GB1 := Aside0.mk (GB.out.byC hg); have RC1 := Aside0.mk (RC.out w1 hg _ _ hc); clear hg hc)
    | (go_at_call 75; refine RC1.out.mono ?_; rintro e1 w2 ⟨rfl, hg, hc⟩; have B2 := Aside0.mk (B1.out.didR hg hc); have GB2 := Aside0.mk (GB1.out.byR hg); clear hg hc)
    | fail)
  go_ret
  exact ⟨_, rfl, fun hs => by have := SM.out hs; injection this with h1 h2; simp [h1], GB2.out, B2.out⟩
set_option maxRecDepth 100000 in
set_option maxHeartbeats 1000000 in
theorem small_3 (h : Both w g r A c l a e A' c' l' a' e') (n : Int) : Calls Try.prog 62 #[.pointer (some ⟨g, 0, none⟩), .pointer (some ⟨r, 0, none⟩), .agg #[.int .i64 3, .int .i64 n]] w (ReadP w g r A c l (s32M l a e).2 A' c' l' (s32M l' a' e').2 (l = l' ∧ a = a' ∧ e = e')) := by
  have hb := below_alloc (Below.refl w.heap.size w) (.cells #[.int .i64 3, .int .i64 n] 59)
  have h1 := h.below hb
  have hu86 := Try.underlying86
  have CC := Aside0.mk (S32_calls h1.cur)
  have RC := Aside0.mk (fun (W : World) (hW : (w.alloc (.cells #[.int .i64 3, .int .i64 n] 59)).grownBy W (some g)) (x y : Int) (hC : Cur W g A c l x y) => RSint32_calls (h1.didC hW hC).rdr h.h6)
  have B := Aside0.mk h1
  have GB := Aside0.mk ((Grown2.refl w g r).below hb)
  have SM := Aside0.mk (show (l = l' ∧ a = a' ∧ e = e') → s32M l a e = s32M l' a' e' from fun h => by rw [h.1, h.2.1, h.2.2])
  have UR := s32M_range l a e
  obtain ⟨u, hu_⟩ : ∃ u, u = s32M l a e := ⟨_, rfl⟩
  obtain ⟨v, hv_⟩ : ∃ v, v = s32M l' a' e' := ⟨_, rfl⟩
  rw [← hu_] at CC SM UR ⊢
  rw [← hv_] at RC SM ⊢
  obtain ⟨u, ua, ue⟩ := u
  obtain ⟨v, va, ve⟩ := v
  simp only at CC RC SM UR ⊢
  obtain ⟨UR0, UR1⟩ := UR
  clear h h1 hb hu_ hv_
  go_enter Try.func62, Try.ntmps62
  go_wp2_with (first
    | (go_at_call 84; refine CC.out.mono ?_; rintro e1 w1 ⟨rfl, hg, hc⟩; have B1 := Aside0.mk (B.out.didC hg hc); have GB1 := Aside0.mk (GB.out.byC hg); have RC1 := Aside0.mk (RC.out w1 hg _ _ hc); clear hg hc)
    | (go_at_call 85; refine RC1.out.mono ?_; rintro e1 w2 ⟨rfl, hg, hc⟩; have B2 := Aside0.mk (B1.out.didR hg hc); have GB2 := Aside0.mk (GB1.out.byR hg); clear hg hc)
    | fail)
  go_ret
  exact ⟨_, rfl, fun hs => by have := SM.out hs; injection this with h1 h2; simp [h1], GB2.out, B2.out⟩
set_option maxRecDepth 100000 in
set_option maxHeartbeats 1000000 in
theorem small_4 (h : Both w g r A c l a e A' c' l' a' e') (n : Int) : Calls Try.prog 62 #[.pointer (some ⟨g, 0, none⟩), .pointer (some ⟨r, 0, none⟩), .agg #[.int .i64 4, .int .i64 n]] w (ReadP w g r A c l (s64M l a e).2 A' c' l' (s64M l' a' e').2 (l = l' ∧ a = a' ∧ e = e')) := by
  have hb := below_alloc (Below.refl w.heap.size w) (.cells #[.int .i64 4, .int .i64 n] 59)
  have h1 := h.below hb
  have hu86 := Try.underlying86
  have CC := Aside0.mk (S64_calls h1.cur)
  have RC := Aside0.mk (fun (W : World) (hW : (w.alloc (.cells #[.int .i64 4, .int .i64 n] 59)).grownBy W (some g)) (x y : Int) (hC : Cur W g A c l x y) => RSint64_calls (h1.didC hW hC).rdr h.h6)
  have B := Aside0.mk h1
  have GB := Aside0.mk ((Grown2.refl w g r).below hb)
  have SM := Aside0.mk (show (l = l' ∧ a = a' ∧ e = e') → s64M l a e = s64M l' a' e' from fun h => by rw [h.1, h.2.1, h.2.2])
  obtain ⟨u, hu_⟩ : ∃ u, u = s64M l a e := ⟨_, rfl⟩
  obtain ⟨v, hv_⟩ : ∃ v, v = s64M l' a' e' := ⟨_, rfl⟩
  rw [← hu_] at CC SM ⊢
  rw [← hv_] at RC SM ⊢
  obtain ⟨u, ua, ue⟩ := u
  obtain ⟨v, va, ve⟩ := v
  simp only at CC RC SM ⊢
  clear h h1 hb hu_ hv_
  go_enter Try.func62, Try.ntmps62
  go_wp2_with (first
    | (go_at_call 86; refine CC.out.mono ?_; rintro e1 w1 ⟨rfl, hg, hc⟩; have B1 := Aside0.mk (B.out.didC hg hc); have GB1 := Aside0.mk (GB.out.byC hg); have RC1 := Aside0.mk (RC.out w1 hg _ _ hc); clear hg hc)
    | (go_at_call 85; refine RC1.out.mono ?_; rintro e1 w2 ⟨rfl, hg, hc⟩; have B2 := Aside0.mk (B1.out.didR hg hc); have GB2 := Aside0.mk (GB1.out.byR hg); clear hg hc)
    | fail)
  go_ret
  exact ⟨_, rfl, fun hs => by have := SM.out hs; injection this with h1 h2; simp [h1], GB2.out, B2.out⟩
set_option maxRecDepth 100000 in
set_option maxHeartbeats 1000000 in
theorem small_7 (h : Both w g r A c l a e A' c' l' a' e') (n : Int) : Calls Try.prog 62 #[.pointer (some ⟨g, 0, none⟩), .pointer (some ⟨r, 0, none⟩), .agg #[.int .i64 7, .int .i64 n]] w (ReadP w g r A c l (nameM l a e).2 A' c' l' (nameM l' a' e').2 (l = l' ∧ a = a' ∧ e = e')) := by
  have hb := below_alloc (Below.refl w.heap.size w) (.cells #[.int .i64 7, .int .i64 n] 59)
  have h1 := h.below hb
  have hu86 := Try.underlying86
  have CC := Aside0.mk (Name_calls h1.cur)
  have RC := Aside0.mk (fun (W : World) (hW : (w.alloc (.cells #[.int .i64 7, .int .i64 n] 59)).grownBy W (some g)) (x y : Int) (hC : Cur W g A c l x y) => RName_calls (h1.didC hW hC).rdr h.h6)
  have B := Aside0.mk h1
  have GB := Aside0.mk ((Grown2.refl w g r).below hb)
  have SM := Aside0.mk (show (l = l' ∧ a = a' ∧ e = e') → nameM l a e = nameM l' a' e' from fun h => by rw [h.1, h.2.1, h.2.2])
  obtain ⟨u, hu_⟩ : ∃ u, u = nameM l a e := ⟨_, rfl⟩
  obtain ⟨v, hv_⟩ : ∃ v, v = nameM l' a' e' := ⟨_, rfl⟩
  rw [← hu_] at CC SM ⊢
  rw [← hv_] at RC SM ⊢
  obtain ⟨u, ua, ue⟩ := u
  obtain ⟨v, va, ve⟩ := v
  simp only at CC RC SM ⊢
  clear h h1 hb hu_ hv_
  go_enter Try.func62, Try.ntmps62
  go_wp2_with (first
    | (go_at_call 91; refine CC.out.mono ?_; rintro e1 w1 ⟨rfl, hg, hc⟩; have B1 := Aside0.mk (B.out.didC hg hc); have GB1 := Aside0.mk (GB.out.byC hg); have RC1 := Aside0.mk (RC.out w1 hg _ _ hc); clear hg hc)
    | (go_at_call 92; refine RC1.out.mono ?_; rintro e1 w2 ⟨rfl, hg, hc⟩; have B2 := Aside0.mk (B1.out.didR hg hc); have GB2 := Aside0.mk (GB1.out.byR hg); clear hg hc)
    | fail)
  go_ret
  exact ⟨_, rfl, fun hs => by have := SM.out hs; injection this with h1 h2; simp [h1], GB2.out, B2.out⟩
set_option maxRecDepth 100000 in
set_option maxHeartbeats 1000000 in
theorem small_8 (h : Both w g r A c l a e A' c' l' a' e') (n : Int) : Calls Try.prog 62 #[.pointer (some ⟨g, 0, none⟩), .pointer (some ⟨r, 0, none⟩), .agg #[.int .i64 8, .int .i64 n]] w (ReadP w g r A c l (countM l a e).2 A' c' l' (countM l' a' e').2 (l = l' ∧ a = a' ∧ e = e')) := by
  have hb := below_alloc (Below.refl w.heap.size w) (.cells #[.int .i64 8, .int .i64 n] 59)
  have h1 := h.below hb
  have hu86 := Try.underlying86
  have CC := Aside0.mk (Count_calls h1.cur)
  have RC := Aside0.mk (fun (W : World) (hW : (w.alloc (.cells #[.int .i64 8, .int .i64 n] 59)).grownBy W (some g)) (x y : Int) (hC : Cur W g A c l x y) => RCount_calls (h1.didC hW hC).rdr h.h6)
  have B := Aside0.mk h1
  have GB := Aside0.mk ((Grown2.refl w g r).below hb)
  have SM := Aside0.mk (show (l = l' ∧ a = a' ∧ e = e') → countM l a e = countM l' a' e' from fun h => by rw [h.1, h.2.1, h.2.2])
  obtain ⟨u, hu_⟩ : ∃ u, u = countM l a e := ⟨_, rfl⟩
  obtain ⟨v, hv_⟩ : ∃ v, v = countM l' a' e' := ⟨_, rfl⟩
  rw [← hu_] at CC SM ⊢
  rw [← hv_] at RC SM ⊢
  obtain ⟨u, ua, ue⟩ := u
  obtain ⟨v, va, ve⟩ := v
  simp only at CC RC SM ⊢
  clear h h1 hb hu_ hv_
  go_enter Try.func62, Try.ntmps62
  go_wp2_with (first
    | (go_at_call 93; refine CC.out.mono ?_; rintro e1 w1 ⟨rfl, hg, hc⟩; have B1 := Aside0.mk (B.out.didC hg hc); have GB1 := Aside0.mk (GB.out.byC hg); have RC1 := Aside0.mk (RC.out w1 hg _ _ hc); clear hg hc)
    | (go_at_call 94; refine RC1.out.mono ?_; rintro e1 w2 ⟨rfl, hg, hc⟩; have B2 := Aside0.mk (B1.out.didR hg hc); have GB2 := Aside0.mk (GB1.out.byR hg); clear hg hc)
    | fail)
  go_ret
  exact ⟨_, rfl, fun hs => by have := SM.out hs; injection this with h1 h2; simp [h1], GB2.out, B2.out⟩
set_option maxRecDepth 100000 in
set_option maxHeartbeats 1000000 in
theorem small_9 (h : Both w g r A c l a e A' c' l' a' e') (n : Int) : Calls Try.prog 62 #[.pointer (some ⟨g, 0, none⟩), .pointer (some ⟨r, 0, none⟩), .agg #[.int .i64 9, .int .i64 n]] w (ReadP w g r A c l (valueM l a e).2 A' c' l' (valueM l' a' e').2 (l = l' ∧ a = a' ∧ e = e')) := by
  have hb := below_alloc (Below.refl w.heap.size w) (.cells #[.int .i64 9, .int .i64 n] 59)
  have h1 := h.below hb
  have hu86 := Try.underlying86
  have CC := Aside0.mk (Value_calls h1.cur)
  have RC := Aside0.mk (fun (W : World) (hW : (w.alloc (.cells #[.int .i64 9, .int .i64 n] 59)).grownBy W (some g)) (x y : Int) (hC : Cur W g A c l x y) => RValue_calls (h1.didC hW hC).rdr)
  have B := Aside0.mk h1
  have GB := Aside0.mk ((Grown2.refl w g r).below hb)
  have SM := Aside0.mk (show (l = l' ∧ a = a' ∧ e = e') → valueM l a e = valueM l' a' e' from fun h => by rw [h.1, h.2.1, h.2.2])
  obtain ⟨u, hu_⟩ : ∃ u, u = valueM l a e := ⟨_, rfl⟩
  obtain ⟨v, hv_⟩ : ∃ v, v = valueM l' a' e' := ⟨_, rfl⟩
  rw [← hu_] at CC SM ⊢
  rw [← hv_] at RC SM ⊢
  obtain ⟨u, ua, ue⟩ := u
  obtain ⟨v, va, ve⟩ := v
  simp only at CC RC SM ⊢
  clear h h1 hb hu_ hv_
  go_enter Try.func62, Try.ntmps62
  go_wp2_with (first
    | (go_at_call 70; refine CC.out.mono ?_; rintro e1 w1 ⟨rfl, hg, hc⟩; have B1 := Aside0.mk (B.out.didC hg hc); have GB1 := Aside0.mk (GB.out.byC hg); have RC1 := Aside0.mk (RC.out w1 hg _ _ hc); clear hg hc)
    | (go_at_call 79; refine RC1.out.mono ?_; rintro e1 w2 ⟨rfl, hg, hc⟩; have B2 := Aside0.mk (B1.out.didR hg hc); have GB2 := Aside0.mk (GB1.out.byR hg); clear hg hc)
    | fail)
  go_ret
  exact ⟨_, rfl, fun hs => by have := SM.out hs; injection this with h1 h2; simp [h1], GB2.out, B2.out⟩
set_option maxRecDepth 100000 in
set_option maxHeartbeats 1000000 in
theorem small_10 (h : Both w g r A c l a e A' c' l' a' e') (n : Int) : Calls Try.prog 62 #[.pointer (some ⟨g, 0, none⟩), .pointer (some ⟨r, 0, none⟩), .agg #[.int .i64 10, .int .i64 n]] w (ReadP w g r A c l (resultsM l a e).2 A' c' l' (resultsM l' a' e').2 (l = l' ∧ a = a' ∧ e = e')) := by
  have hb := below_alloc (Below.refl w.heap.size w) (.cells #[.int .i64 10, .int .i64 n] 59)
  have h1 := h.below hb
  have hu86 := Try.underlying86
  have CC := Aside0.mk (Results_calls h1.cur)
  have RC := Aside0.mk (fun (W : World) (hW : (w.alloc (.cells #[.int .i64 10, .int .i64 n] 59)).grownBy W (some g)) (x y : Int) (hC : Cur W g A c l x y) => RResults_calls (h1.didC hW hC).rdr)
  have B := Aside0.mk h1
  have GB := Aside0.mk ((Grown2.refl w g r).below hb)
  have SM := Aside0.mk (show (l = l' ∧ a = a' ∧ e = e') → resultsM l a e = resultsM l' a' e' from fun h => by rw [h.1, h.2.1, h.2.2])
  obtain ⟨u, hu_⟩ : ∃ u, u = resultsM l a e := ⟨_, rfl⟩
  obtain ⟨v, hv_⟩ : ∃ v, v = resultsM l' a' e' := ⟨_, rfl⟩
  rw [← hu_] at CC SM ⊢
  rw [← hv_] at RC SM ⊢
  obtain ⟨u, ua, ue⟩ := u
  obtain ⟨v, va, ve⟩ := v
  simp only at CC RC SM ⊢
  clear h h1 hb hu_ hv_
  go_enter Try.func62, Try.ntmps62
  go_wp2_with (first
    | (go_at_call 95; refine CC.out.mono ?_; rintro e1 w1 ⟨rfl, hg, hc⟩; have B1 := Aside0.mk (B.out.didC hg hc); have GB1 := Aside0.mk (GB.out.byC hg); have RC1 := Aside0.mk (RC.out w1 hg _ _ hc); clear hg hc)
    | (go_at_call 96; refine RC1.out.mono ?_; rintro e1 w2 ⟨rfl, hg, hc⟩; have B2 := Aside0.mk (B1.out.didR hg hc); have GB2 := Aside0.mk (GB1.out.byR hg); clear hg hc)
    | fail)
  go_ret
  exact ⟨_, rfl, fun hs => by have := SM.out hs; injection this with h1 h2; simp [h1], GB2.out, B2.out⟩
end
end Go.Proofs.Ytjhdnlgbboboiaa.Scan

/- The walk of read: limits, tables, globals. -/
namespace Go.Proofs.Ytjhdnlgbboboiaa.Scan
open Go.Proofs.Ytjhdnlgbboboiaa.Leb Go.Proofs.Ytjhdnlgbboboiaa.Mem Go.RowKit Go.Proofs.YtjhdnlgbboboiaaW.PrintWords Go.Proofs.YtjhdnlgbboboiaaW.PrintLast Go.Proofs.YtjhdnlgbboboiaaW.PrintMore Go.Proofs.Ytjhdnlgbboboiaa.Base
set_option linter.unusedVariables false
set_option linter.unusedSimpArgs false
theorem eq_lim90 (x y p q : Int) (b c : Bool) (W : World) : (binOp .eql 90 (.agg #[.int .u32 x, .int .u32 p, .bool b]) (.agg #[.int .u32 y, .int .u32 q, .bool c])).run Try.prog W = .ok (.bool ((x == y) && ((p == q) && (b == c)))) W := by
  have h : (Op.equalIn 10000 90 (.agg #[.int .u32 x, .int .u32 p, .bool b]) (.agg #[.int .u32 y, .int .u32 q, .bool c])).run Try.prog W = .ok ((x == y) && ((p == q) && (b == c))) W :=
    eqA_of Try.underlying90 (by kernel_rfl) (eqf_cons (a := .int .u32 x) (b := .int .u32 y) rfl (by kernel_rfl) (by kernel_rfl) (run_equalIn_int W _ _ .u32 .u32 x y (by kernel_rfl)) (eqf_cons (a := .int .u32 p) (b := .int .u32 q) rfl (by kernel_rfl) (by kernel_rfl) (run_equalIn_int W _ _ .u32 .u32 p q (by kernel_rfl)) (eqf_last (a := .bool b) (b := .bool c) rfl (by kernel_rfl) (by kernel_rfl) (run_equalIn_bool' W _ _ b c (by kernel_rfl)))))
  rw [run_eql_struct, h]
  rfl
theorem eq_lim88 (x y p q : Int) (b c : Bool) (W : World) : (binOp .eql 88 (.agg #[.int .u32 x, .int .u32 p, .bool b]) (.agg #[.int .u32 y, .int .u32 q, .bool c])).run Try.prog W = .ok (.bool ((x == y) && ((p == q) && (b == c)))) W := by
  have h : (Op.equalIn 10000 88 (.agg #[.int .u32 x, .int .u32 p, .bool b]) (.agg #[.int .u32 y, .int .u32 q, .bool c])).run Try.prog W = .ok ((x == y) && ((p == q) && (b == c))) W :=
    eqA_of Try.underlying88 (by kernel_rfl) (eqf_cons (a := .int .u32 x) (b := .int .u32 y) rfl (by kernel_rfl) (by kernel_rfl) (run_equalIn_int W _ _ .u32 .u32 x y (by kernel_rfl)) (eqf_cons (a := .int .u32 p) (b := .int .u32 q) rfl (by kernel_rfl) (by kernel_rfl) (run_equalIn_int W _ _ .u32 .u32 p q (by kernel_rfl)) (eqf_last (a := .bool b) (b := .bool c) rfl (by kernel_rfl) (by kernel_rfl) (run_equalIn_bool' W _ _ b c (by kernel_rfl)))))
  rw [run_eql_struct, h]
  rfl
theorem eq_glo93 (x y : Int) (b c : Bool) (W : World) : (binOp .eql 93 (.agg #[.int .u8 x, .bool b]) (.agg #[.int .u8 y, .bool c])).run Try.prog W = .ok (.bool ((x == y) && (b == c))) W := by
  have h : (Op.equalIn 10000 93 (.agg #[.int .u8 x, .bool b]) (.agg #[.int .u8 y, .bool c])).run Try.prog W = .ok ((x == y) && (b == c)) W :=
    eqA_of Try.underlying93 (by kernel_rfl) (eqf_cons (a := .int .u8 x) (b := .int .u8 y) rfl (by kernel_rfl) (by kernel_rfl) (run_equalIn_int W _ _ .u8 .u8 x y (by kernel_rfl)) (eqf_last (a := .bool b) (b := .bool c) rfl (by kernel_rfl) (by kernel_rfl) (run_equalIn_bool' W _ _ b c (by kernel_rfl))))
  rw [run_eql_struct, h]
  rfl
section
variable {w w1 w2 W W' : World} {g r c c' : Nat} {A A' : Option Addr} {l l' : List Int} {a e a' e' a1 e1 : Int}
set_option maxRecDepth 100000 in
set_option maxHeartbeats 1000000 in
theorem read_11 (h : Both w g r A c l a e A' c' l' a' e') (n : Int) : Calls Try.prog 34 #[.pointer (some ⟨g, 0, none⟩), .pointer (some ⟨r, 0, none⟩), .agg #[.int .i64 11, .int .i64 n]] w (ReadP w g r A c l (limitsM l a e).2 A' c' l' (limitsM l' a' e').2 (l = l' ∧ a = a' ∧ e = e')) := by
  have hb := below_alloc (Below.refl w.heap.size w) (.cells #[.int .i64 11, .int .i64 n] 59)
  have h1 := h.below hb
  have CC := Aside0.mk (Limits_calls h1.cur)
  have RC := Aside0.mk (fun (W : World) (hW : (w.alloc (.cells #[.int .i64 11, .int .i64 n] 59)).grownBy W (some g)) (x y : Int) (hC : Cur W g A c l x y) => RLimits_calls (h1.didC hW hC).rdr h.h6)
  have B := Aside0.mk h1
  have GB := Aside0.mk ((Grown2.refl w g r).below hb)
  have SM := Aside0.mk (show (l = l' ∧ a = a' ∧ e = e') → limitsM l a e = limitsM l' a' e' from fun h => by rw [h.1, h.2.1, h.2.2])
  obtain ⟨u, hu_⟩ : ∃ u, u = limitsM l a e := ⟨_, rfl⟩
  obtain ⟨v, hv_⟩ : ∃ v, v = limitsM l' a' e' := ⟨_, rfl⟩
  rw [← hu_] at CC SM ⊢
  rw [← hv_] at RC SM ⊢
  obtain ⟨⟨u1, u2, u3⟩, ua, ue⟩ := u
  obtain ⟨⟨v1, v2, v3⟩, va, ve⟩ := v
  simp only [limV] at CC RC SM ⊢
  have eq1 := eq_lim90 u1 v1 u2 v2 u3 v3
  have eg : Try.prog.eqGuardType Try.prog.depth 90 = false := by kernel_rfl
  clear h h1 hb hu_ hv_
  go_enter Try.func34, Try.ntmps34
  go_wp2_with (first
    | (go_at_call 54; refine CC.out.mono ?_; rintro e1 w1 ⟨rfl, hg, hc⟩; have B1 := Aside0.mk (B.out.didC hg hc); have GB1 := Aside0.mk (GB.out.byC hg); have RC1 := Aside0.mk (RC.out w1 hg _ _ hc); clear hg hc)
    | (go_at_call 55; refine RC1.out.mono ?_; rintro e1 w2 ⟨rfl, hg, hc⟩; have B2 := Aside0.mk (B1.out.didR hg hc); have GB2 := Aside0.mk (GB1.out.byR hg); clear hg hc)
    | fail)
  go_ret
  exact ⟨_, rfl, fun hs => by have := SM.out hs; injection this with h1 h2; injection h1 with h3 h4; injection h4 with h5 h6; simp [h3, h5, h6], GB2.out, B2.out⟩
set_option maxRecDepth 100000 in
set_option maxHeartbeats 1000000 in
theorem read_13 (h : Both w g r A c l a e A' c' l' a' e') (n : Int) : Calls Try.prog 34 #[.pointer (some ⟨g, 0, none⟩), .pointer (some ⟨r, 0, none⟩), .agg #[.int .i64 13, .int .i64 n]] w (ReadP w g r A c l (tableM l a e).2 A' c' l' (tableM l' a' e').2 (l = l' ∧ a = a' ∧ e = e')) := by
  have hb := below_alloc (Below.refl w.heap.size w) (.cells #[.int .i64 13, .int .i64 n] 59)
  have h1 := h.below hb
  have CC := Aside0.mk (Table_calls h1.cur)
  have RC := Aside0.mk (fun (W : World) (hW : (w.alloc (.cells #[.int .i64 13, .int .i64 n] 59)).grownBy W (some g)) (x y : Int) (hC : Cur W g A c l x y) => RTable_calls (h1.didC hW hC).rdr h.h6)
  have B := Aside0.mk h1
  have GB := Aside0.mk ((Grown2.refl w g r).below hb)
  have SM := Aside0.mk (show (l = l' ∧ a = a' ∧ e = e') → tableM l a e = tableM l' a' e' from fun h => by rw [h.1, h.2.1, h.2.2])
  obtain ⟨u, hu_⟩ : ∃ u, u = tableM l a e := ⟨_, rfl⟩
  obtain ⟨v, hv_⟩ : ∃ v, v = tableM l' a' e' := ⟨_, rfl⟩
  rw [← hu_] at CC SM ⊢
  rw [← hv_] at RC SM ⊢
  obtain ⟨⟨u1, u2, u3⟩, ua, ue⟩ := u
  obtain ⟨⟨v1, v2, v3⟩, va, ve⟩ := v
  simp only [limV] at CC RC SM ⊢
  have eq1 := eq_lim90 u1 v1 u2 v2 u3 v3
  have eg : Try.prog.eqGuardType Try.prog.depth 90 = false := by kernel_rfl
  clear h h1 hb hu_ hv_
  go_enter Try.func34, Try.ntmps34
  go_wp2_with (first
    | (go_at_call 58; refine CC.out.mono ?_; rintro e1 w1 ⟨rfl, hg, hc⟩; have B1 := Aside0.mk (B.out.didC hg hc); have GB1 := Aside0.mk (GB.out.byC hg); have RC1 := Aside0.mk (RC.out w1 hg _ _ hc); clear hg hc)
    | (go_at_call 59; refine RC1.out.mono ?_; rintro e1 w2 ⟨rfl, hg, hc⟩; have B2 := Aside0.mk (B1.out.didR hg hc); have GB2 := Aside0.mk (GB1.out.byR hg); clear hg hc)
    | fail)
  go_ret
  exact ⟨_, rfl, fun hs => by have := SM.out hs; injection this with h1 h2; injection h1 with h3 h4; injection h4 with h5 h6; simp [h3, h5, h6], GB2.out, B2.out⟩
set_option maxRecDepth 100000 in
set_option maxHeartbeats 1000000 in
theorem read_12 (h : Both w g r A c l a e A' c' l' a' e') (n : Int) : Calls Try.prog 34 #[.pointer (some ⟨g, 0, none⟩), .pointer (some ⟨r, 0, none⟩), .agg #[.int .i64 12, .int .i64 n]] w (ReadP w g r A c l (globalM l a e).2 A' c' l' (globalM l' a' e').2 (l = l' ∧ a = a' ∧ e = e')) := by
  have hb := below_alloc (Below.refl w.heap.size w) (.cells #[.int .i64 12, .int .i64 n] 59)
  have h1 := h.below hb
  have CC := Aside0.mk (Global_calls h1.cur)
  have RC := Aside0.mk (fun (W : World) (x y : Int) (hC : Both W g r A c l x y A' c' l' a' e') => RGlobal_calls hC.rdr)
  have B := Aside0.mk h1
  have GB := Aside0.mk ((Grown2.refl w g r).below hb)
  have SM := Aside0.mk (show (l = l' ∧ a = a' ∧ e = e') → globalM l a e = globalM l' a' e' from fun h => by rw [h.1, h.2.1, h.2.2])
  obtain ⟨u, hu_⟩ : ∃ u, u = globalM l a e := ⟨_, rfl⟩
  obtain ⟨v, hv_⟩ : ∃ v, v = globalM l' a' e' := ⟨_, rfl⟩
  rw [← hu_] at CC SM ⊢
  rw [← hv_] at RC SM ⊢
  obtain ⟨⟨u1, u2⟩, ua, ue⟩ := u
  obtain ⟨⟨v1, v2⟩, va, ve⟩ := v
  simp only [gloV, gloW] at CC RC SM ⊢
  have eq1 := eq_glo93 u1 v1 u2 v2
  have eg : Try.prog.eqGuardType Try.prog.depth 93 = false := by kernel_rfl
  have SZ := Aside0.mk (And.intro (blk_lt h.boxC) (blk_lt h.boxR))
  clear h h1 hb hu_ hv_
  go_enter Try.func34, Try.ntmps34
  go_wp2_with (first
    | (go_at_call 56; refine CC.out.mono ?_; rintro e1 w1 ⟨rfl, hg, hc⟩; have B1 := Aside0.mk (B.out.didC hg hc); have GB1 := Aside0.mk (GB.out.byC hg)
       have Q := Aside0.mk (heap_alloc_new w1 (.cells #[.int .u8 u1, .bool u2] 93))
       have HW := Aside0.mk (below_alloc (Below.refl w1.heap.size w1) (.cells #[.int .u8 u1, .bool u2] 93))
       have SZ1 := Aside0.mk (show r < w1.heap.size from Nat.lt_of_lt_of_le SZ.out.2 GB1.out.size)
       clear hg hc)
    | (go_at_call 57; refine (RC.out _ _ _ (B1.out.below HW.out)).mono ?_; rintro e1 w2 ⟨rfl, hg, hc⟩
       have B2 := Aside0.mk ((B1.out.below HW.out).didR hg hc); have GB2 := Aside0.mk ((GB1.out.below HW.out).byR hg)
       have q2 := (hg.block w1.heap.size (blk_lt Q.out) (fun e => by have := Option.some.inj e; have := SZ1.out; omega)).trans Q.out
       have y0 := (blk_cell q2 0).trans rfl
       have y1 := (blk_cell q2 1).trans rfl
       clear hg hc q2)
    | fail)
  go_ret
  exact ⟨_, rfl, fun hs => by have := SM.out hs; injection this with h1 h2; injection h1 with h3 h4; (first | (simp [h3, h4]; done) | (rename_i hq; exact absurd (by rw [h3]) hq)), GB2.out, B2.out⟩
set_option maxRecDepth 100000 in
set_option maxHeartbeats 2000000 in
theorem read_14 (h : Both w g r A c l a e A' c' l' a' e') (n : Int) : Calls Try.prog 34 #[.pointer (some ⟨g, 0, none⟩), .pointer (some ⟨r, 0, none⟩), .agg #[.int .i64 14, .int .i64 n]] w (ReadP w g r A c l (funcM l a e).2 A' c' l' (funcM l' a' e').2 (l = l' ∧ a = a' ∧ e = e')) := by
  have hb := below_alloc (Below.refl w.heap.size w) (.cells #[.int .i64 14, .int .i64 n] 59)
  have h1 := h.below hb
  have CC := Func_calls h1.cur
  have RC := (fun (W : World) (x y : Int) (hC : Both W g r A c l x y A' c' l' a' e') => RFunc_calls hC.rdr h.h6)
  have B := Aside0.mk h1
  have GB := Aside0.mk ((Grown2.refl w g r).below hb)
  have SM := Aside0.mk (show (l = l' ∧ a = a' ∧ e = e') → funcM l a e = funcM l' a' e' from fun h => by rw [h.1, h.2.1, h.2.2])
  obtain ⟨u, hu_⟩ : ∃ u, u = funcM l a e := ⟨_, rfl⟩
  obtain ⟨v, hv_⟩ : ∃ v, v = funcM l' a' e' := ⟨_, rfl⟩
  rw [← hu_] at CC SM ⊢
  rw [← hv_] at RC SM ⊢
  obtain ⟨⟨u1, u2⟩, ua, ue⟩ := u
  obtain ⟨⟨v1, v2⟩, va, ve⟩ := v
  simp only at CC RC SM ⊢
  replace CC := Aside0.mk CC
  replace RC := Aside0.mk RC
  have SZ := Aside0.mk (And.intro (blk_lt h.boxC) (blk_lt h.boxR))
  have CV := Aside0.mk (fun (W : World) (A1 : Option Addr) (xs : List Int) (c1 : Nat) (hF : Kd.C ku W A1 xs.length xs) => (Kd.C_string Try.underlying22 Try.underlying5 Try.underlying9 hF : (convert 22 9 (.slice A1 xs.length c1)).run Try.prog W = .ok (.string (strOfNums xs)) W))
  have hu := Try.underlying22
  clear h h1 hb hu_ hv_
  go_enter Try.func34, Try.ntmps34
  go_wp2_with (first
    | (go_at_call 53; refine CC.out.mono ?_; rintro e1 w1 ⟨_, rfl, ⟨A1, c1, A2, c2, rfl, hcc, hF1, hF2⟩, hg, hc⟩; have B1 := Aside0.mk (B.out.didC hg hc); have GB1 := Aside0.mk (GB.out.byC hg)
       have Q := Aside0.mk (heap_alloc_new w1 (.cells #[.slice A1 u1.length c1, .slice A2 u2.length c2] 84))
       have HW := Aside0.mk (below_alloc (Below.refl w1.heap.size w1) (.cells #[.slice A1 u1.length c1, .slice A2 u2.length c2] 84))
       have SZ1 := Aside0.mk (show r < w1.heap.size from Nat.lt_of_lt_of_le SZ.out.2 GB1.out.size)
       have F1 := Aside0.mk hF1
       have F2 := Aside0.mk hF2
       have SW := Aside0.mk (show r < w.heap.size + 1 by have := SZ.out.2; omega)
       clear hg hc hcc hF1 hF2)
    | (go_at_call 60; refine (RC.out _ _ _ (B1.out.below HW.out)).mono ?_; rintro e1 w2 ⟨_, rfl, ⟨A3, c3, A4, c4, rfl, hcc, hF3, hF4⟩, hg, hc⟩
       have B2 := Aside0.mk ((B1.out.below HW.out).didR hg hc); have GB2 := Aside0.mk ((GB1.out.below HW.out).byR hg)
       have q2 := (hg.block w1.heap.size (blk_lt Q.out) (fun e => by have := Option.some.inj e; have := SZ1.out; omega)).trans Q.out
       have y0 := (blk_cell q2 0).trans rfl
       have y1 := (blk_cell q2 1).trans rfl
       have hS : ∀ (A : Option Addr) (xs : List Int), Kd.F ku w1 (fun k => (w.alloc (.cells #[.int .i64 14, .int .i64 n] 59)).heap.size ≤ k ∧ k < w1.heap.size) A xs.length xs → Kd.C ku w2 A xs.length xs := fun A xs hF => Kd.F_now (Kd.F_step (Kd.F_step hF fun k hk hlt => HW.out.block k hlt) fun k hk hlt => hg.block k hlt (fun e => by have := Option.some.inj e; have := hk.1; rw [World.size_alloc] at this; have := SW.out; omega))
       have cv1 := CV.out w2 A1 u1 c1 (hS A1 u1 F1.out)
       have cv2 := CV.out w2 A2 u2 c2 (hS A2 u2 F2.out)
       have cv3 := CV.out w2 A3 v1 c3 (Kd.F_now hF3)
       have cv4 := CV.out w2 A4 v2 c4 (Kd.F_now hF4)
       clear hg hc q2 hcc hF3 hF4 hS)
    | fail)
  all_goals
    go_ret
    exact ⟨_, rfl, fun hs => by have := SM.out hs; injection this with h1 h2; injection h1 with h3 h4; (first | (simp [h3, h4]; done) | (rename_i hq; exact absurd (by rw [h3]) hq)), GB2.out, B2.out⟩
set_option maxRecDepth 100000 in
set_option maxHeartbeats 1000000 in
theorem read_none (h : Both w g r A c l a e A' c' l' a' e') (k n : Int) (hk : k < 1 ∨ 15 < k) : Calls Try.prog 34 #[.pointer (some ⟨g, 0, none⟩), .pointer (some ⟨r, 0, none⟩), .agg #[.int .i64 k, .int .i64 n]] w (ReadP w g r A c l (a, e) A' c' l' (a', e') (l = l' ∧ a = a' ∧ e = e')) := by
  have hb := below_alloc (Below.refl w.heap.size w) (.cells #[.int .i64 k, .int .i64 n] 59)
  have B := Aside0.mk (h.below hb)
  have GB := Aside0.mk ((Grown2.refl w g r).below hb)
  have n11 : ¬ k = 11 := by omega
  have n12 : ¬ k = 12 := by omega
  have n13 : ¬ k = 13 := by omega
  have n14 : ¬ k = 14 := by omega
  have n15 : ¬ k = 15 := by omega
  by_cases hk1 : k < 1
  · have d1 : decide (k ≥ 1) = false := decide_eq_false (by omega)
    clear h hb hk
    go_enter Try.func34, Try.ntmps34
    go_wp2
    go_ret
    exact ⟨_, rfl, fun _ => rfl, GB.out, B.out⟩
  · have d1 : decide (k ≥ 1) = true := decide_eq_true (by omega)
    have d2 : decide (k ≤ 10) = false := decide_eq_false (by omega)
    clear h hb hk
    go_enter Try.func34, Try.ntmps34
    go_wp2
    go_ret
    exact ⟨_, rfl, fun _ => rfl, GB.out, B.out⟩
set_option maxRecDepth 100000 in
set_option maxHeartbeats 1000000 in
/-- read hands these to small. -/
theorem read_small (k n : Int) (hk : 1 ≤ k ∧ k ≤ 10) (vc vr : Value) (P : Ending → World → Prop)
    (hS : Calls Try.prog 62 #[vc, vr, .agg #[.int .i64 k, .int .i64 n]] (w.alloc (.cells #[.int .i64 k, .int .i64 n] 59)) P) (hP : ∀ en w', P en w' → ∃ bv, en = .returned (.bool bv)) :
    Calls Try.prog 34 #[vc, vr, .agg #[.int .i64 k, .int .i64 n]] w P := by
  have SC := Aside0.mk hS
  have HP := Aside0.mk hP
  have n11 : ¬ k = 11 := by omega
  have n12 : ¬ k = 12 := by omega
  have n13 : ¬ k = 13 := by omega
  have n14 : ¬ k = 14 := by omega
  have n15 : ¬ k = 15 := by omega
  have d1 : decide (k ≥ 1) = true := decide_eq_true (by omega)
  have d2 : decide (k ≤ 10) = true := decide_eq_true (by omega)
  clear hS hk hP
  go_enter Try.func34, Try.ntmps34
  go_wp2_with (first
    | (go_at_call 62; refine SC.out.mono ?_; rintro e1 w1 hp; obtain ⟨bv, rfl⟩ := HP.out _ _ hp; have HQ := Aside0.mk hp; clear hp)
    | fail)
  exact HQ.out
theorem RFail_did (h : Both w g r A c l a e A' c' l' a' e') (er : Int) : Calls Try.prog 61 #[.pointer (some ⟨r, 0, none⟩), .int .i64 er] w fun en w' => en = .returned (.tuple #[]) ∧ w.grownBy w' (some r) ∧ Both w' g r A c l a e A' c' l' a' (fl er e') := (RFail_calls h.rdr er).mono (by rintro en w' ⟨rfl, hg, hc⟩; exact ⟨rfl, hg, h.didR hg hc⟩)
set_option maxRecDepth 100000 in
set_option maxHeartbeats 1000000 in
theorem read_15z (h : Both w g r A c l a e A' c' l' a' e') (n : Int) (hn : n ≤ 0) : Calls Try.prog 34 #[.pointer (some ⟨g, 0, none⟩), .pointer (some ⟨r, 0, none⟩), .agg #[.int .i64 15, .int .i64 n]] w (ReadP w g r A c l (a, e) A' c' l' (a', e') (l = l' ∧ a = a' ∧ e = e')) := by
  have hb := below_alloc (Below.refl w.heap.size w) (.cells #[.int .i64 15, .int .i64 n] 59)
  have h1 := h.below hb
  have B := Aside0.mk h1
  have GB := Aside0.mk ((Grown2.refl w g r).below hb)
  have FC := Aside0.mk (Fail_zero h1.cur)
  have n1 : ¬ 1000 < n := by omega
  by_cases h0 : n = 0
  · subst h0
    clear h hb h1 hn n1
    go_enter Try.func34, Try.ntmps34
    go_wp2_with (first
      | (go_at_call 38; refine FC.out.mono ?_; rintro e1 w1 ⟨rfl, hg, hc⟩; have B1 := Aside0.mk (B.out.didC hg hc); have GB1 := Aside0.mk (GB.out.byC hg); clear hg hc)
      | fail)
    go_ret
    exact ⟨_, rfl, fun _ => rfl, GB1.out, B1.out⟩
  · have n2 : n < 0 := by omega
    clear h hb h1 hn h0
    go_enter Try.func34, Try.ntmps34
    go_wp2_with (first
      | (go_at_call 38; refine FC.out.mono ?_; rintro e1 w1 ⟨rfl, hg, hc⟩; have B1 := Aside0.mk (B.out.didC hg hc); have GB1 := Aside0.mk (GB.out.byC hg); clear hg hc)
      | fail)
    go_ret
    exact ⟨_, rfl, fun _ => rfl, GB1.out, B1.out⟩
set_option maxRecDepth 100000 in
set_option maxHeartbeats 1000000 in
theorem read_15y (h : Both w g r A c l a e A' c' l' a' e') (n m : Int) (hn : (0 < n ∧ n ≤ 1000 ∧ m = n) ∨ (1000 < n ∧ m = 1000)) : Calls Try.prog 34 #[.pointer (some ⟨g, 0, none⟩), .pointer (some ⟨r, 0, none⟩), .agg #[.int .i64 15, .int .i64 n]] w (ReadP w g r A c l (a, fl m e) A' c' l' (a', fl m e') (l = l' ∧ a = a' ∧ e = e')) := by
  have hb := below_alloc (Below.refl w.heap.size w) (.cells #[.int .i64 15, .int .i64 n] 59)
  have h1 := h.below hb
  have B := Aside0.mk h1
  have GB := Aside0.mk ((Grown2.refl w g r).below hb)
  have FC := Aside0.mk (Fail_calls h1.cur m (by omega))
  have RC := Aside0.mk (fun (W : World) (x y : Int) (hC : Both W g r A c l x y A' c' l' a' e') => RFail_did hC m)
  have d1 : ((m : Int) != 0) = true := by rw [bne_iff_ne]; omega
  by_cases h0 : n ≤ 1000
  · have n1 : ¬ 1000 < n := by omega
    have n2 : 0 < n := by omega
    have n3 : m = n := by omega
    subst n3
    clear h hb h1 hn h0
    go_enter Try.func34, Try.ntmps34
    go_wp2_with (first
      | (go_at_call 38; refine FC.out.mono ?_; rintro e1 w1 ⟨rfl, hg, hc⟩; have B1 := Aside0.mk (B.out.didC hg hc); have GB1 := Aside0.mk (GB.out.byC hg); have RC1 := Aside0.mk (RC.out _ _ _ B1.out); clear hg hc)
      | (go_at_call 61; refine RC1.out.mono ?_; rintro e1 w2 ⟨rfl, hg, hc⟩; have B2 := Aside0.mk hc; have GB2 := Aside0.mk (GB1.out.byR hg); clear hg hc)
      | fail)
    all_goals
      go_ret
      exact ⟨_, rfl, fun _ => rfl, GB2.out, B2.out⟩
  · have n1 : 1000 < n := by omega
    have n3 : m = 1000 := by omega
    subst n3
    clear h hb h1 hn h0
    go_enter Try.func34, Try.ntmps34
    go_wp2_with (first
      | (go_at_call 38; refine FC.out.mono ?_; rintro e1 w1 ⟨rfl, hg, hc⟩; have B1 := Aside0.mk (B.out.didC hg hc); have GB1 := Aside0.mk (GB.out.byC hg); have RC1 := Aside0.mk (RC.out _ _ _ B1.out); clear hg hc)
      | (go_at_call 61; refine RC1.out.mono ?_; rintro e1 w2 ⟨rfl, hg, hc⟩; have B2 := Aside0.mk hc; have GB2 := Aside0.mk (GB1.out.byR hg); clear hg hc)
      | fail)
    all_goals
      go_ret
      exact ⟨_, rfl, fun _ => rfl, GB2.out, B2.out⟩
end
end Go.Proofs.Ytjhdnlgbboboiaa.Scan
