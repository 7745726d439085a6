/- The walks of among, Value, Results, Fixed. -/
import Derived.Test.YtjhdnlgbboboiaaMScanA
namespace Go.Proofs.Ytjhdnlgbboboiaa.Scan
open Go.Proofs.Ytjhdnlgbboboiaa.Leb Go.Proofs.Ytjhdnlgbboboiaa.Mem Go.RowKit Go.Proofs.YtjhdnlgbboboiaaW.PrintWords Go.Proofs.YtjhdnlgbboboiaaW.PrintLast Go.Proofs.YtjhdnlgbboboiaaW.PrintMore Go.Proofs.Ytjhdnlgbboboiaa.Base
set_option linter.unusedVariables false
set_option linter.unusedSimpArgs false
section
variable {w : World} {g c : Nat} {A : Option Addr} {l : List Int} {a e : Int}
set_option maxRecDepth 100000 in
theorem among_calls (h : Cur w g A c l a e) (er : Int) (hn : er ≠ 0) (AL : Option Addr) (cL : Nat) (L : List Int) (hL : L.length ≤ 1000) (hF : Kd.F ku w (fun k => k ≠ g) AL L.length L) :
    Calls Try.prog 68 #[.pointer (some ⟨g, 0, none⟩), .int .i64 er, .slice AL L.length cL] w (Did w g A c l (.int .u8 (amongM er L l a e).1) (amongM er L l a e).2.1 (amongM er L l a e).2.2) := by
  have hb1 := below_alloc (Below.refl w.heap.size w) (.cells #[.pointer (some ⟨g, 0, none⟩)] 53)
  have hb2 := hb1.alloc hb1.size (.cells #[.int .i64 er] 41)
  have hb := hb2.alloc hb2.size (.cells #[.slice AL L.length cL] 22)
  have h1 := h.below hb
  have GB := Aside0.mk (grown_of_below hb (some g))
  have q1 := heap_alloc_new w (.cells #[.pointer (some ⟨g, 0, none⟩)] 53)
  have q2 := heap_alloc_new (w.alloc (.cells #[.pointer (some ⟨g, 0, none⟩)] 53)) (.cells #[.int .i64 er] 41)
  have q3 := heap_alloc_new ((w.alloc (.cells #[.pointer (some ⟨g, 0, none⟩)] 53)).alloc (.cells #[.int .i64 er] 41)) (.cells #[.slice AL L.length cL] 22)
  have s1 : (w.alloc (.cells #[.pointer (some ⟨g, 0, none⟩)] 53)).heap.size = w.heap.size + 1 := World.size_alloc _ _
  have s2 : ((w.alloc (.cells #[.pointer (some ⟨g, 0, none⟩)] 53)).alloc (.cells #[.int .i64 er] 41)).heap.size = w.heap.size + 1 + 1 := by rw [World.size_alloc, s1]
  rw [s1] at q2
  rw [s2] at q3
  have cb := (Below.heap_alloc ((w.alloc (.cells #[.pointer (some ⟨g, 0, none⟩)] 53)).alloc (.cells #[.int .i64 er] 41)) (.cells #[.slice AL L.length cL] 22) w.heap.size (by rw [s2]; omega)).trans ((Below.heap_alloc (w.alloc (.cells #[.pointer (some ⟨g, 0, none⟩)] 53)) (.cells #[.int .i64 er] 41) w.heap.size (by rw [s1]; omega)).trans q1)
  have ce := (Below.heap_alloc ((w.alloc (.cells #[.pointer (some ⟨g, 0, none⟩)] 53)).alloc (.cells #[.int .i64 er] 41)) (.cells #[.slice AL L.length cL] 22) _ (by rw [s2]; omega)).trans q2
  have hlt := h.lt
  have F1 := Kd.F_step hF fun k _ hk => hb.block k hk
  by_cases he : e = 0
  · subst he
    have RC := Aside0.mk (reads98_any h1 99 #[.pointer (some ⟨w.heap.size, 0, none⟩), .pointer (some ⟨w.heap.size + 1 + 1, 0, none⟩), .pointer (some ⟨w.heap.size + 1, 0, none⟩)] (fun w => by go_simp) (amongB er L l a)
      (among1_calls h1 w.heap.size (w.heap.size + 1 + 1) (w.heap.size + 1) (by omega) (by omega) (by omega) cb er hn ce AL cL L hL q3 F1))
    have e1 : amongM er L l a 0 = rM 0 (amongB er L l a) a := by unfold amongM readsM; rw [if_pos rfl]
    rw [e1]
    clear h hb1 hb2 hb h1 q1 q2 q3 s1 s2 cb ce e1 hlt F1 hF hn
    go_enter Try.func68, Try.ntmps68
    go_wp2_with (first | (go_at_call 98; refine RC.out.mono ?_; rintro e1 w1 ⟨rfl, hg, hc⟩; have HG := Aside0.mk hg; have HC := Aside0.mk hc; clear hg hc) | fail)
    go_ret
    exact ⟨rfl, grown_then GB.out HG.out, HC.out⟩
  · have RC := Aside0.mk (reads98_off h1 he 99 #[.pointer (some ⟨w.heap.size, 0, none⟩), .pointer (some ⟨w.heap.size + 1 + 1, 0, none⟩), .pointer (some ⟨w.heap.size + 1, 0, none⟩)])
    have e1 : amongM er L l a e = (0, a, e) := by unfold amongM readsM; rw [if_neg he]
    rw [e1]
    clear h hb1 hb2 hb h1 q1 q2 q3 s1 s2 cb ce e1 hlt F1 hF hn he
    go_enter Try.func68, Try.ntmps68
    go_wp2_with (first | (go_at_call 98; refine RC.out.mono ?_; rintro e1 w1 ⟨rfl, hg, hc⟩; have HG := Aside0.mk hg; have HC := Aside0.mk hc; clear hg hc) | fail)
    go_ret
    exact ⟨rfl, grown_then GB.out HG.out, HC.out⟩
set_option maxRecDepth 100000 in
theorem among_nil (w : World) (er : Int) (AL : Option Addr) (n cL : Nat) : Calls Try.prog 68 #[.pointer none, .int .i64 er, .slice AL n cL] w fun en w' => en = .returned (.int .u8 0) ∧ Below w.heap.size w w' := by
  have RC := Aside0.mk (reads98_nil (((w.alloc (.cells #[.pointer none] 53)).alloc (.cells #[.int .i64 er] 41)).alloc (.cells #[.slice AL n cL] 22)) 99 #[.pointer (some ⟨w.heap.size, 0, none⟩), .pointer (some ⟨w.heap.size + 1 + 1, 0, none⟩), .pointer (some ⟨w.heap.size + 1, 0, none⟩)])
  go_enter Try.func68, Try.ntmps68
  go_wp2_with (first | (go_at_call 98; refine RC.out.mono ?_; rintro e1 w1 ⟨rfl, rfl⟩) | fail)
  go_ret
  have hb1 := below_alloc (Below.refl w.heap.size w) (.cells #[.pointer none] 53)
  have hb2 := hb1.alloc hb1.size (.cells #[.int .i64 er] 41)
  exact ⟨rfl, hb2.alloc hb2.size (.cells #[.slice AL n cL] 22)⟩
/-- A row of bytes, just laid. -/
theorem row_new {W : World} {b : Nat} {L : List Int} {T : TypeId} (hb : W.heap[b]? = some (.cells (L.map fun x => Value.int .u8 x).toArray T (0, 0))) (hlen : L.length ≤ 1000) : Kd.F ku W (fun k => k = b) (some ⟨b, 0, none⟩) L.length L := fun W' hW => by
  have hb' := (hW b rfl (blk_lt hb)).trans hb
  refine Kd.C_of_reads (d := 0) ⟨rfl, by omega, fun _ => ⟨_, rfl, fun j hj => ?_⟩⟩
  rw [show (⟨b, 0, none⟩ : Addr).add j = ⟨b, j, none⟩ from by cases j <;> simp [Addr.add]]
  have h1 := blk_cell hb' j
  rw [List.getElem?_toArray, List.getElem?_map, List.getElem?_eq_getElem hj] at h1
  rw [h1, List.getD_eq_getElem?_getD, List.getElem?_eq_getElem hj]
  rfl
/-- A type, a result's type. -/
def valueM (l : List Int) (a e : Int) : Int × Int × Int := amongM 106 [127, 126, 125, 124] l a e
def resultsM (l : List Int) (a e : Int) : Int × Int × Int := (if (amongM 106 [127, 126, 125, 124, 64] l a e).1 = 64 then 0 else (amongM 106 [127, 126, 125, 124, 64] l a e).1, (amongM 106 [127, 126, 125, 124, 64] l a e).2)
/-- The call of among over bytes that the caller has just laid. -/
theorem among_laid (h : Cur w g A c l a e) (er : Int) (hn : er ≠ 0) (L : List Int) (hL : L.length ≤ 1000) (T : TypeId) :
    Calls Try.prog 68 #[.pointer (some ⟨g, 0, none⟩), .int .i64 er, .slice (some ⟨w.heap.size, 0, none⟩) L.length L.length] (w.alloc (.cells (L.map fun x => Value.int .u8 x).toArray T))
      (fun en w' => Did w g A c l (.int .u8 (amongM er L l a e).1) (amongM er L l a e).2.1 (amongM er L l a e).2.2 en w') := by
  have hb := below_alloc (Below.refl w.heap.size w) (.cells (L.map fun x => Value.int .u8 x).toArray T)
  refine (among_calls (h.below hb) er hn _ L.length L hL (Kd.F_mono (row_new (heap_alloc_new w _) hL) fun k hk => by rintro rfl; have := h.lt; omega)).mono ?_
  rintro en w' ⟨rfl, hg, hc⟩
  exact ⟨rfl, grown_then (grown_of_below hb _) hg, hc⟩
set_option maxRecDepth 100000 in
theorem Value_calls (h : Cur w g A c l a e) : Calls Try.prog 70 #[.pointer (some ⟨g, 0, none⟩)] w (Did w g A c l (.int .u8 (valueM l a e).1) (valueM l a e).2.1 (valueM l a e).2.2) := by
  have hu := Try.underlying22
  have AC := Aside0.mk (among_laid h 106 (by decide) [127, 126, 125, 124] (by decide) 5)
  unfold valueM
  clear h
  go_enter Try.func70, Try.ntmps70
  go_wp2_with (first | (go_at_call 68; refine AC.out.mono ?_; rintro e1 w1 ⟨rfl, hg, hc⟩; have HG := Aside0.mk hg; have HC := Aside0.mk hc; clear hg hc) | fail)
  go_ret
  exact ⟨rfl, HG.out, HC.out⟩
theorem Value_nil (w : World) : Calls Try.prog 70 #[.pointer none] w fun en w' => en = .returned (.int .u8 0) ∧ Below w.heap.size w w' := by
  have hu := Try.underlying22
  have AC := Aside0.mk (among_nil (w.alloc (.cells #[.int .u8 127, .int .u8 126, .int .u8 125, .int .u8 124] 5)) 106 (some ⟨w.heap.size, 0, none⟩) 4 4)
  go_enter Try.func70, Try.ntmps70
  go_wp2_with (first | (go_at_call 68; refine AC.out.mono ?_; rintro e1 w1 ⟨rfl, hb⟩; have HB := Aside0.mk hb; clear hb) | fail)
  go_ret
  exact ⟨rfl, below_then (below_alloc (Below.refl _ _) _) (by simp) HB.out⟩
set_option maxRecDepth 100000 in
theorem Results_calls (h : Cur w g A c l a e) : Calls Try.prog 95 #[.pointer (some ⟨g, 0, none⟩)] w (Did w g A c l (.int .u8 (resultsM l a e).1) (resultsM l a e).2.1 (resultsM l a e).2.2) := by
  have hu := Try.underlying22
  have AC := Aside0.mk (among_laid h 106 (by decide) [127, 126, 125, 124, 64] (by decide) 5)
  unfold resultsM
  obtain ⟨u, hu_⟩ : ∃ u, u = amongM 106 [127, 126, 125, 124, 64] l a e := ⟨_, rfl⟩
  rw [← hu_] at AC ⊢
  obtain ⟨b, ba, be⟩ := u
  clear h hu_
  simp only at AC ⊢
  by_cases hb : b = 64
  · have d1 : ((b : Int) == 64) = true := beq_iff_eq.2 hb
    rw [if_pos hb]
    clear hb
    go_enter Try.func95, Try.ntmps95
    go_wp2_with (first | (go_at_call 68; refine AC.out.mono ?_; rintro e1 w1 ⟨rfl, hg, hc⟩; have HG := Aside0.mk hg; have HC := Aside0.mk hc; clear hg hc) | fail)
    go_ret
    exact ⟨rfl, HG.out, HC.out⟩
  · have d1 : ((b : Int) == 64) = false := beq_eq_false_iff_ne.2 hb
    rw [if_neg hb]
    clear hb
    go_enter Try.func95, Try.ntmps95
    go_wp2_with (first | (go_at_call 68; refine AC.out.mono ?_; rintro e1 w1 ⟨rfl, hg, hc⟩; have HG := Aside0.mk hg; have HC := Aside0.mk hc; clear hg hc) | fail)
    go_ret
    exact ⟨rfl, HG.out, HC.out⟩
theorem Results_nil (w : World) : Calls Try.prog 95 #[.pointer none] w fun en w' => en = .returned (.int .u8 0) ∧ Below w.heap.size w w' := by
  have hu := Try.underlying22
  have AC := Aside0.mk (among_nil (w.alloc (.cells #[.int .u8 127, .int .u8 126, .int .u8 125, .int .u8 124, .int .u8 64] 5)) 106 (some ⟨w.heap.size, 0, none⟩) 5 5)
  go_enter Try.func95, Try.ntmps95
  go_wp2_with (first | (go_at_call 68; refine AC.out.mono ?_; rintro e1 w1 ⟨rfl, hb⟩; have HB := Aside0.mk hb; clear hb) | fail)
  go_ret
  exact ⟨rfl, below_then (below_alloc (Below.refl _ _) _) (by simp) HB.out⟩
/-- Bytes, the lowest first, as one number. -/
def orAt (x b : Int) (i : Nat) : Int := bits .or .u64 x (IntKind.u64.wrap (b * 2 ^ (8 * (i : Int)).toNat))
def fixL : List Int → Nat → Int → Int
  | [], i, x => x
  | b :: bs, i, x => fixL bs (i + 1) (orAt x b i)
theorem orAt_range (x b : Int) (i : Nat) : 0 ≤ orAt x b i ∧ orAt x b i < 18446744073709551616 := by
  unfold orAt bits
  simp only [IntKind.wrap_u64]
  omega
def fixedB (n : Int) (l : List Int) (a : Int) : Int × Int × Int := if n ≠ 4 ∧ n ≠ 8 then (0, a, 2) else if n > (l.length : Int) - a then (0, a, 100) else (fixL ((l.drop a.toNat).take n.toNat) 0 0, a + n, 0)
def fixedM (n : Int) (l : List Int) (a e : Int) : Int × Int × Int := readsM 0 (fixedB n l a) a e
set_option maxRecDepth 100000 in
theorem Fixed1_else (h : Cur w g A c l a 0) (bc bn : Nat) (n : Int) (cb : w.cell? ⟨bc, 0, none⟩ = some (.pointer (some ⟨g, 0, none⟩))) (cn : w.cell? ⟨bn, 0, none⟩ = some (.int .i64 n)) (hn : n ≠ 4 ∧ n ≠ 8) :
    Calls Try.prog 108 #[.pointer (some ⟨bn, 0, none⟩), .pointer (some ⟨bc, 0, none⟩)] w (Did w g A c l (.int .u64 (fixedB n l a).1) (fixedB n l a).2.1 (fixedB n l a).2.2) := by
  unfold fixedB
  rw [if_pos hn]
  have d1 : ((n : Int) != 4) = true := by rw [bne_iff_ne]; exact hn.1
  have d2 : ((n : Int) != 8) = true := by rw [bne_iff_ne]; exact hn.2
  have FL := Aside0.mk (fail_any (h.below (below_drew (Below.refl _ _))) 2 (by decide))
  have c1 := h.c1
  clear h hn
  go_enter Try.func108, Try.ntmps108
  go_wp2
  go_region_with (go_at_call 63; refine FL.out.mono ?_; rintro e1 w5 ⟨rfl, hg, hc⟩; have HG5 := Aside0.mk (grown_then (grown_of_below (below_drew (Below.refl _ _)) _) hg); have HC5 := Aside0.mk hc; clear hg hc)
  all_goals
    go_wp2
    go_ret
    exact ⟨rfl, HG5.out, HC5.out⟩
set_option maxRecDepth 100000 in
theorem Fixed1_no4 (h : Cur w g A c l a 0) (bc bn : Nat) (cb : w.cell? ⟨bc, 0, none⟩ = some (.pointer (some ⟨g, 0, none⟩))) (cn : w.cell? ⟨bn, 0, none⟩ = some (.int .i64 4)) (hn : (4 : Int) > (l.length : Int) - a) :
    Calls Try.prog 108 #[.pointer (some ⟨bn, 0, none⟩), .pointer (some ⟨bc, 0, none⟩)] w (Did w g A c l (.int .u64 (fixedB 4 l a).1) (fixedB 4 l a).2.1 (fixedB 4 l a).2.2) := by
  unfold fixedB
  rw [if_neg (by decide), if_pos hn]
  have TC := Aside0.mk (take_no h 4 hn)
  clear h hn
  go_enter Try.func108, Try.ntmps108
  go_wp2_with (first
    | (go_at_call 104; refine TC.out.mono ?_; rintro e1 w1 ⟨rfl, hg, hc⟩; have HG := Aside0.mk hg; have HC := Aside0.mk hc; clear hg hc)
    | fail)
  go_loopg [3, 25] 0 (fun d v3 v25 w' => v3 = .int .u64 0 ∧ v25 = .int .i64 0 ∧ w' = w1)
  case atStart => exact ⟨rfl, rfl, rfl⟩
  case round =>
    obtain ⟨rfl, rfl, rfl⟩ := hrel
    go_wp2
    go_ret
    exact ⟨rfl, HG.out, HC.out⟩
set_option maxRecDepth 100000 in
theorem Fixed1_yes4 (h : Cur w g A c l a 0) (bc bn : Nat) (cb : w.cell? ⟨bc, 0, none⟩ = some (.pointer (some ⟨g, 0, none⟩))) (cn : w.cell? ⟨bn, 0, none⟩ = some (.int .i64 4)) (hn : ¬ (4 : Int) > (l.length : Int) - a) :
    Calls Try.prog 108 #[.pointer (some ⟨bn, 0, none⟩), .pointer (some ⟨bc, 0, none⟩)] w (Did w g A c l (.int .u64 (fixedB 4 l a).1) (fixedB 4 l a).2.1 (fixedB 4 l a).2.2) := by
  unfold fixedB
  rw [if_neg (by decide), if_neg hn]
  have hu := Try.underlying22
  have TC := Aside0.mk (take_yes h 4 (by push_cast; omega))
  have BL := Aside0.mk (show ((l.drop a.toNat).take (4 : Int).toNat).length = 4 from by rw [List.length_take, List.length_drop]; have := h.lo; have := h.hi; omega)
  have BO := Aside0.mk (show okB ((l.drop a.toNat).take (4 : Int).toNat) from fun x hx => h.ok x (List.mem_of_mem_drop (List.mem_of_mem_take hx)))
  rw [show (4 : Nat) = (4 : Int).toNat from rfl] at TC
  obtain ⟨bs, hbs⟩ : ∃ bs, bs = (l.drop a.toNat).take (4 : Int).toNat := ⟨_, rfl⟩
  unfold TookPost at TC
  rw [← hbs] at TC BL BO ⊢
  clear h hn hbs
  go_enter Try.func108, Try.ntmps108
  go_wp2_with (first
    | (go_at_call 104; refine TC.out.mono ?_; rintro e1 w1 ⟨A', c', rfl, hf, hc', hg, hc⟩; have HG := Aside0.mk hg; have HC := Aside0.mk hc; have HF := Aside0.mk (Kd.F_now hf); clear hg hc hf hc')
    | fail)
  go_loopg [3, 25] 4 (fun d v3 v25 w' => ∃ (i : Nat) (x : Int), v3 = .int .u64 x ∧ v25 = .int .i64 (i : Int) ∧ Aside0 (i + d = 4) ∧ (0 ≤ x ∧ x < 18446744073709551616) ∧ Aside0 (fixL bs 0 0 = fixL (bs.drop i) i x) ∧ w' = w1)
  case atStart => exact ⟨0, 0, rfl, rfl, ⟨by omega⟩, by omega, ⟨rfl⟩, rfl⟩
  case round =>
    obtain ⟨i, x, rfl, rfl, HD, hx, HX, rfl⟩ := hrel
    have hd := HD.out
    have hb := BL.out
    cases gk with
    | zero =>
      obtain rfl : i = 4 := by omega
      have e1 : fixL bs 0 0 = x := by rw [HX.out, List.drop_eq_nil_of_le (by omega)]; rfl
      have E1 := Aside0.mk e1
      clear e1 hd hb
      go_wp2
      go_ret
      exact ⟨by rw [E1.out]; rfl, HG.out, HC.out⟩
    | succ d =>
      have hi : i < 4 := by omega
      have e1 : decide (i < 4) = true := decide_eq_true hi
      have hiI : (i : Int) < 4 := by omega
      obtain ⟨ad, eA, x0⟩ := ReadsOf.at_ (Kd.reads_of_C (enc := Value.int .u8) (d := 0) (h1 := fun _ => rfl) HF.out) (i : Int) (by omega) (by omega)
      subst eA
      rw [Int.toNat_natCast] at x0
      have hdr := drop_cons bs i (by omega)
      have hxb := BO.out (rd bs (i : Int)) (by simp [rd, show i < bs.length by omega])
      rw [show rdOf 0 bs (i : Int) = rd bs (i : Int) from rfl] at x0
      obtain ⟨X, hX⟩ : ∃ X, X = rd bs (i : Int) := ⟨_, rfl⟩
      rw [← hX] at x0 hdr hxb
      have HX2 := HX.out
      rw [hdr] at HX2
      have HX3 := Aside0.mk (show fixL bs 0 0 = fixL (bs.drop (i + 1)) (i + 1) (orAt x X i) from HX2)
      have OR := Aside0.mk (orAt_range x X i)
      have HXb := Aside0.mk hxb
      clear hX hd hb hdr HX2 HX
      obtain ⟨X0, X1⟩ := hxb
      obtain ⟨y0, y1⟩ := hx
      have s0 : 0 ≤ 8 * (i : Int) := by omega
      have s1 : 8 * (i : Int) < 64 := by omega
      go_wp2
      go_roundg d
      case measure => omega
      case rel => exact ⟨i + 1, orAt x X i, rfl, by push_cast; rfl, ⟨by have := HD.out; omega⟩, OR.out, HX3, rfl⟩
set_option maxRecDepth 100000 in
theorem Fixed1_no8 (h : Cur w g A c l a 0) (bc bn : Nat) (cb : w.cell? ⟨bc, 0, none⟩ = some (.pointer (some ⟨g, 0, none⟩))) (cn : w.cell? ⟨bn, 0, none⟩ = some (.int .i64 8)) (hn : (8 : Int) > (l.length : Int) - a) :
    Calls Try.prog 108 #[.pointer (some ⟨bn, 0, none⟩), .pointer (some ⟨bc, 0, none⟩)] w (Did w g A c l (.int .u64 (fixedB 8 l a).1) (fixedB 8 l a).2.1 (fixedB 8 l a).2.2) := by
  unfold fixedB
  rw [if_neg (by decide), if_pos hn]
  have TC := Aside0.mk (take_no h 8 hn)
  clear h hn
  go_enter Try.func108, Try.ntmps108
  go_wp2_with (first
    | (go_at_call 104; refine TC.out.mono ?_; rintro e1 w1 ⟨rfl, hg, hc⟩; have HG := Aside0.mk hg; have HC := Aside0.mk hc; clear hg hc)
    | fail)
  go_loopg [3, 25] 0 (fun d v3 v25 w' => v3 = .int .u64 0 ∧ v25 = .int .i64 0 ∧ w' = w1)
  case atStart => exact ⟨rfl, rfl, rfl⟩
  case round =>
    obtain ⟨rfl, rfl, rfl⟩ := hrel
    go_wp2
    go_ret
    exact ⟨rfl, HG.out, HC.out⟩
set_option maxRecDepth 100000 in
theorem Fixed1_yes8 (h : Cur w g A c l a 0) (bc bn : Nat) (cb : w.cell? ⟨bc, 0, none⟩ = some (.pointer (some ⟨g, 0, none⟩))) (cn : w.cell? ⟨bn, 0, none⟩ = some (.int .i64 8)) (hn : ¬ (8 : Int) > (l.length : Int) - a) :
    Calls Try.prog 108 #[.pointer (some ⟨bn, 0, none⟩), .pointer (some ⟨bc, 0, none⟩)] w (Did w g A c l (.int .u64 (fixedB 8 l a).1) (fixedB 8 l a).2.1 (fixedB 8 l a).2.2) := by
  unfold fixedB
  rw [if_neg (by decide), if_neg hn]
  have hu := Try.underlying22
  have TC := Aside0.mk (take_yes h 8 (by push_cast; omega))
  have BL := Aside0.mk (show ((l.drop a.toNat).take (8 : Int).toNat).length = 8 from by rw [List.length_take, List.length_drop]; have := h.lo; have := h.hi; omega)
  have BO := Aside0.mk (show okB ((l.drop a.toNat).take (8 : Int).toNat) from fun x hx => h.ok x (List.mem_of_mem_drop (List.mem_of_mem_take hx)))
  rw [show (8 : Nat) = (8 : Int).toNat from rfl] at TC
  obtain ⟨bs, hbs⟩ : ∃ bs, bs = (l.drop a.toNat).take (8 : Int).toNat := ⟨_, rfl⟩
  unfold TookPost at TC
  rw [← hbs] at TC BL BO ⊢
  clear h hn hbs
  go_enter Try.func108, Try.ntmps108
  go_wp2_with (first
    | (go_at_call 104; refine TC.out.mono ?_; rintro e1 w1 ⟨A', c', rfl, hf, hc', hg, hc⟩; have HG := Aside0.mk hg; have HC := Aside0.mk hc; have HF := Aside0.mk (Kd.F_now hf); clear hg hc hf hc')
    | fail)
  go_loopg [3, 25] 8 (fun d v3 v25 w' => ∃ (i : Nat) (x : Int), v3 = .int .u64 x ∧ v25 = .int .i64 (i : Int) ∧ Aside0 (i + d = 8) ∧ (0 ≤ x ∧ x < 18446744073709551616) ∧ Aside0 (fixL bs 0 0 = fixL (bs.drop i) i x) ∧ w' = w1)
  case atStart => exact ⟨0, 0, rfl, rfl, ⟨by omega⟩, by omega, ⟨rfl⟩, rfl⟩
  case round =>
    obtain ⟨i, x, rfl, rfl, HD, hx, HX, rfl⟩ := hrel
    have hd := HD.out
    have hb := BL.out
    cases gk with
    | zero =>
      obtain rfl : i = 8 := by omega
      have e1 : fixL bs 0 0 = x := by rw [HX.out, List.drop_eq_nil_of_le (by omega)]; rfl
      have E1 := Aside0.mk e1
      clear e1 hd hb
      go_wp2
      go_ret
      exact ⟨by rw [E1.out]; rfl, HG.out, HC.out⟩
    | succ d =>
      have hi : i < 8 := by omega
      have e1 : decide (i < 8) = true := decide_eq_true hi
      have hiI : (i : Int) < 8 := by omega
      obtain ⟨ad, eA, x0⟩ := ReadsOf.at_ (Kd.reads_of_C (enc := Value.int .u8) (d := 0) (h1 := fun _ => rfl) HF.out) (i : Int) (by omega) (by omega)
      subst eA
      rw [Int.toNat_natCast] at x0
      have hdr := drop_cons bs i (by omega)
      have hxb := BO.out (rd bs (i : Int)) (by simp [rd, show i < bs.length by omega])
      rw [show rdOf 0 bs (i : Int) = rd bs (i : Int) from rfl] at x0
      obtain ⟨X, hX⟩ : ∃ X, X = rd bs (i : Int) := ⟨_, rfl⟩
      rw [← hX] at x0 hdr hxb
      have HX2 := HX.out
      rw [hdr] at HX2
      have HX3 := Aside0.mk (show fixL bs 0 0 = fixL (bs.drop (i + 1)) (i + 1) (orAt x X i) from HX2)
      have OR := Aside0.mk (orAt_range x X i)
      have HXb := Aside0.mk hxb
      clear hX hd hb hdr HX2 HX
      obtain ⟨X0, X1⟩ := hxb
      obtain ⟨y0, y1⟩ := hx
      have s0 : 0 ≤ 8 * (i : Int) := by omega
      have s1 : 8 * (i : Int) < 64 := by omega
      go_wp2
      go_roundg d
      case measure => omega
      case rel => exact ⟨i + 1, orAt x X i, rfl, by push_cast; rfl, ⟨by have := HD.out; omega⟩, OR.out, HX3, rfl⟩
theorem Fixed1_calls (h : Cur w g A c l a 0) (bc bn : Nat) (n : Int) (cb : w.cell? ⟨bc, 0, none⟩ = some (.pointer (some ⟨g, 0, none⟩))) (cn : w.cell? ⟨bn, 0, none⟩ = some (.int .i64 n)) :
    Calls Try.prog 108 #[.pointer (some ⟨bn, 0, none⟩), .pointer (some ⟨bc, 0, none⟩)] w (Did w g A c l (.int .u64 (fixedB n l a).1) (fixedB n l a).2.1 (fixedB n l a).2.2) := by
  by_cases h4 : n = 4
  · subst h4
    by_cases hn : (4 : Int) > (l.length : Int) - a
    · exact Fixed1_no4 h bc bn cb cn hn
    · exact Fixed1_yes4 h bc bn cb cn hn
  by_cases h8 : n = 8
  · subst h8
    by_cases hn : (8 : Int) > (l.length : Int) - a
    · exact Fixed1_no8 h bc bn cb cn hn
    · exact Fixed1_yes8 h bc bn cb cn hn
  · exact Fixed1_else h bc bn n cb cn ⟨h4, h8⟩
set_option maxRecDepth 100000 in
theorem Fixed_calls (h : Cur w g A c l a e) (n : Int) : Calls Try.prog 87 #[.pointer (some ⟨g, 0, none⟩), .int .i64 n] w (Did w g A c l (.int .u64 (fixedM n l a e).1) (fixedM n l a e).2.1 (fixedM n l a e).2.2) := by
  have hb1 := below_alloc (Below.refl w.heap.size w) (.cells #[.pointer (some ⟨g, 0, none⟩)] 53)
  have hb := hb1.alloc hb1.size (.cells #[.int .i64 n] 3)
  have h1 := h.below hb
  have GB := Aside0.mk (grown_of_below hb (some g))
  have cb : ((w.alloc (.cells #[.pointer (some ⟨g, 0, none⟩)] 53)).alloc (.cells #[.int .i64 n] 3)).cell? ⟨w.heap.size, 0, none⟩ = some (.pointer (some ⟨g, 0, none⟩)) := (blk_cell ((Below.heap_alloc _ _ _ (by rw [World.size_alloc]; omega)).trans (heap_alloc_new w (.cells #[.pointer (some ⟨g, 0, none⟩)] 53))) 0).trans rfl
  have cn : ((w.alloc (.cells #[.pointer (some ⟨g, 0, none⟩)] 53)).alloc (.cells #[.int .i64 n] 3)).cell? ⟨w.heap.size + 1, 0, none⟩ = some (.int .i64 n) := by
    have := heap_alloc_new (w.alloc (.cells #[.pointer (some ⟨g, 0, none⟩)] 53)) (.cells #[.int .i64 n] 3)
    rw [World.size_alloc] at this
    exact (blk_cell this 0).trans rfl
  by_cases he : e = 0
  · subst he
    have RC := Aside0.mk (reads106_any h1 108 #[.pointer (some ⟨w.heap.size + 1, 0, none⟩), .pointer (some ⟨w.heap.size, 0, none⟩)] (fun w => by go_simp) (fixedB n l a) (Fixed1_calls h1 _ _ n cb cn))
    have e1 : fixedM n l a 0 = rM 0 (fixedB n l a) a := by unfold fixedM readsM; rw [if_pos rfl]
    rw [e1]
    clear h hb hb1 h1 cb cn e1
    go_enter Try.func87, Try.ntmps87
    go_wp2_with (first | (go_at_call 106; refine RC.out.mono ?_; rintro e1 w1 ⟨rfl, hg, hc⟩; have HG := Aside0.mk hg; have HC := Aside0.mk hc; clear hg hc) | fail)
    go_ret
    exact ⟨rfl, grown_then GB.out HG.out, HC.out⟩
  · have RC := Aside0.mk (reads106_off h1 he 108 #[.pointer (some ⟨w.heap.size + 1, 0, none⟩), .pointer (some ⟨w.heap.size, 0, none⟩)])
    have e1 : fixedM n l a e = (0, a, e) := by unfold fixedM readsM; rw [if_neg he]
    rw [e1]
    clear h hb hb1 h1 cb cn e1 he
    go_enter Try.func87, Try.ntmps87
    go_wp2_with (first | (go_at_call 106; refine RC.out.mono ?_; rintro e1 w1 ⟨rfl, hg, hc⟩; have HG := Aside0.mk hg; have HC := Aside0.mk hc; clear hg hc) | fail)
    go_ret
    exact ⟨rfl, grown_then GB.out HG.out, HC.out⟩
theorem Fixed_nil (w : World) (n : Int) : Calls Try.prog 87 #[.pointer none, .int .i64 n] w fun en w' => en = .returned (.int .u64 0) ∧ Below w.heap.size w w' := by
  have RC := Aside0.mk (reads106_nil ((w.alloc (.cells #[.pointer none] 53)).alloc (.cells #[.int .i64 n] 3)) 108 #[.pointer (some ⟨w.heap.size + 1, 0, none⟩), .pointer (some ⟨w.heap.size, 0, none⟩)])
  go_enter Try.func87, Try.ntmps87
  go_wp2_with (first | (go_at_call 106; refine RC.out.mono ?_; rintro e1 w1 ⟨rfl, rfl⟩) | fail)
  go_ret
  exact ⟨rfl, (below_alloc (Below.refl _ _) _).alloc (by simp) _⟩
end
end Go.Proofs.Ytjhdnlgbboboiaa.Scan

/- The walks of reads, at the types that are structs. -/
namespace Go.Proofs.Ytjhdnlgbboboiaa.Scan
open Go.Proofs.Ytjhdnlgbboboiaa.Leb Go.Proofs.Ytjhdnlgbboboiaa.Mem Go.RowKit Go.Proofs.YtjhdnlgbboboiaaW.PrintWords Go.Proofs.YtjhdnlgbboboiaaW.PrintLast Go.Proofs.YtjhdnlgbboboiaaW.PrintMore Go.Proofs.Ytjhdnlgbboboiaa.Base
set_option linter.unusedVariables false
set_option linter.unusedSimpArgs false
section
variable {w w2 W W' : World} {g c : Nat} {A : Option Addr} {l : List Int} {a e a1 e1 : Int}
/-- The cursor behind a call, where a block of the caller's has changed too. -/
theorem Cur.off (h : Cur w g A c l a e) {t : Nat} (ht : w.heap.size ≤ t) (hg : w.grownBy w2 (some g)) (hc : Cur w2 g A c l a1 e1) (G : w2.grownBy W' (some t)) : w.grownBy W' (some g) ∧ Cur W' g A c l a1 e1 := by
  have hlt := h.lt
  have hW : w.grownBy W' (some g) := ⟨G.os.trans hg.os, G.tape.trans hg.tape, G.output.trans hg.output, Nat.le_trans hg.size G.size, fun i hi hn =>
    (G.block i (Nat.lt_of_lt_of_le hi hg.size) (fun e => by have := Option.some.inj e; omega)).trans (hg.block i hi hn)⟩
  refine ⟨hW, (G.block g hc.lt (fun e => by have := Option.some.inj e; omega)).trans hc.box, ?_, hc.cap, hc.lo, hc.hi, hc.ok, hc.sm⟩
  exact Kd.F_mono (Kd.F_step (Foot.bound h.bytes) fun k hk hlt => hW.block k hlt (fun e => hk.1 (Option.some.inj e))) fun k hk => hk.1
theorem heap_alloc_old {W : World} {k : Nat} (o : Obj) (h : k < W.heap.size) : (W.alloc o).heap[k]? = W.heap[k]? := Below.heap_alloc W o k h
theorem blk_set_ne {b t : Nat} {o : Obj} (h : W.heap[b]? = some o) (hne : b ≠ t) (i : Nat) (v : Value) : (W.setCell ⟨t, i, none⟩ v).heap[b]? = some o := (Below.heap_setCell W ⟨t, i, none⟩ v b hne).trans h
theorem grown_set2 (w : World) (t : Nat) (x y : Value) : w.grownBy ((w.setCell ⟨t, 0, none⟩ x).setCell ⟨t, 1, none⟩ y) (some t) := grown_then (grown_set w t 0 x) (grown_set _ t 1 y)
theorem grown_set3 (w : World) (t : Nat) (x y z : Value) : w.grownBy (((w.setCell ⟨t, 0, none⟩ x).setCell ⟨t, 1, none⟩ y).setCell ⟨t, 2, none⟩ z) (some t) := grown_then (grown_set2 w t x y) (grown_set _ t 2 z)
theorem blk_put2 {t : Nat} {T : TypeId} {x y : Value} (h : W.heap[t]? = some (.cells #[x, y] T (0, 0))) (x1 y1 : Value) : ((W.setCell ⟨t, 0, none⟩ x1).setCell ⟨t, 1, none⟩ y1).heap[t]? = some (.cells #[x1, y1] T (0, 0)) := blk_set (blk_set h 0 x1) 1 y1
theorem blk_put3 {t : Nat} {T : TypeId} {x y z : Value} (h : W.heap[t]? = some (.cells #[x, y, z] T (0, 0))) (x1 y1 z1 : Value) : (((W.setCell ⟨t, 0, none⟩ x1).setCell ⟨t, 1, none⟩ y1).setCell ⟨t, 2, none⟩ z1).heap[t]? = some (.cells #[x1, y1, z1] T (0, 0)) := blk_set (blk_set (blk_set h 0 x1) 1 y1) 2 z1
set_option maxRecDepth 100000 in
theorem reads71_nil (w : World) (K : Nat) (caps : Array Value) : Calls Try.prog 71 #[.pointer none, .func (.func K) #[] caps] w fun en w' => en = .returned (.agg #[.int .u32 0, .int .u32 0, .bool false]) ∧ Below w.heap.size w w' := by
  have q := heap_alloc_new w (.cells #[.int .u32 0, .int .u32 0, .bool false] 88)
  go_enter Try.func71, Try.ntmps71
  go_wp2
  have k0 := blk_cell q 0
  have k1 := blk_cell q 1
  have k2 := blk_cell q 2
  simp at k0 k1 k2
  refine bodyPost_ret (v := .agg #[.int .u32 0, .int .u32 0, .bool false]) (by simp [results, Try.results71, go_sem, k0, k1, k2]) rfl ?_
  exact ⟨rfl, below_alloc (Below.refl _ _) _⟩
set_option maxRecDepth 100000 in
theorem reads71_off (h : Cur w g A c l a e) (he : e ≠ 0) (K : Nat) (caps : Array Value) : Calls Try.prog 71 #[.pointer (some ⟨g, 0, none⟩), .func (.func K) #[] caps] w (Did w g A c l (.agg #[.int .u32 0, .int .u32 0, .bool false]) a e) := by
  have h1 := h.below (below_alloc (Below.refl w.heap.size w) (.cells #[.int .u32 0, .int .u32 0, .bool false] 88))
  have GC := Aside0.mk (good_calls h1)
  rw [show (e == 0) = false from beq_eq_false_iff_ne.2 he] at GC
  have H := Aside0.mk h
  clear h he h1
  go_enter Try.func71, Try.ntmps71
  go_wp2_with (first | (go_at_call 97; refine GC.out.mono ?_; rintro e1 w1 ⟨rfl, rfl⟩) | fail)
  have q := heap_alloc_new w (.cells #[.int .u32 0, .int .u32 0, .bool false] 88)
  have k0 := blk_cell q 0
  have k1 := blk_cell q 1
  have k2 := blk_cell q 2
  simp at k0 k1 k2
  refine bodyPost_ret (v := .agg #[.int .u32 0, .int .u32 0, .bool false]) (by simp [results, Try.results71, go_sem, k0, k1, k2]) rfl ?_
  exact ⟨rfl, grown_of_below (below_alloc (Below.refl _ _) _) _, H.out.below (below_alloc (Below.refl _ _) _)⟩
set_option maxRecDepth 100000 in
theorem reads71_ok (h : Cur w g A c l a 0) (K : Nat) (caps : Array Value) (hcf : ∀ w : World, Sem.run Try.prog (callFunc K caps) w = .ok (.enter K caps) w) (mn mx : Int) (hs : Bool) (a1 : Int)
    (hK : Calls Try.prog K caps (w.alloc (.cells #[.int .u32 0, .int .u32 0, .bool false] 88)) (Did (w.alloc (.cells #[.int .u32 0, .int .u32 0, .bool false] 88)) g A c l (.agg #[.int .u32 mn, .int .u32 mx, .bool hs]) a1 0)) : Calls Try.prog 71 #[.pointer (some ⟨g, 0, none⟩), .func (.func K) #[] caps] w (Did w g A c l (.agg #[.int .u32 mn, .int .u32 mx, .bool hs]) a1 0) := by
  have hb := below_alloc (Below.refl w.heap.size w) (.cells #[.int .u32 0, .int .u32 0, .bool false] 88)
  have h1 := h.below hb
  have GC := Aside0.mk (good_calls h1)
  have GB := Aside0.mk (grown_of_below hb (some g))
  have Q := Aside0.mk (fun (W : World) (hW : (w.alloc (.cells #[.int .u32 0, .int .u32 0, .bool false] 88)).grownBy W (some g)) => (show W.heap[w.heap.size]? = some (.cells #[.int .u32 0, .int .u32 0, .bool false] 88 (0, 0)) from (hW.block _ (by simp) (fun e => by have := Option.some.inj e; have := h.lt; omega)).trans (heap_alloc_new w _)))
  have H := Aside0.mk h
  have KC := Aside0.mk hK
  have x1 := h1.c1
  clear h hK h1 hb
  go_enter Try.func71, Try.ntmps71
  go_wp2_with (first
    | (go_at_call 97; refine GC.out.mono ?_; rintro e1 w1 ⟨rfl, rfl⟩)
    | (refine KC.out.mono ?_; rintro e1 w2 ⟨rfl, hg, hc⟩; have q2 := (heap_alloc_old (.cells #[.int .u32 mn, .int .u32 mx, .bool hs] 88) (blk_lt (Q.out w2 hg))).trans (Q.out w2 hg); have Q2 := Aside0.mk q2; have y0 := (blk_cell q2 0).trans rfl; have y1 := (blk_cell q2 1).trans rfl; have y2 := (blk_cell q2 2).trans rfl; have f0 := blk_frozen q2 0; have f1 := blk_frozen q2 1; have f2 := blk_frozen q2 2; clear q2; have HG := Aside0.mk hg; have HC := Aside0.mk hc; have GC2 := Aside0.mk (good_calls (hc.below (below_alloc (Below.refl w2.heap.size w2) (.cells #[.int .u32 mn, .int .u32 mx, .bool hs] 88)))); clear hg hc)
    | (refine GC2.out.mono ?_; rintro e1 w3 ⟨rfl, rfl⟩)
    | fail)
  have P := blk_put3 Q2.out (.int .u32 mn) (.int .u32 mx) (.bool hs)
  have k0 := blk_cell P 0
  have k1 := blk_cell P 1
  have k2 := blk_cell P 2
  simp at k0 k1 k2
  refine bodyPost_ret (v := .agg #[.int .u32 mn, .int .u32 mx, .bool hs]) (by simp [results, Try.results71, go_sem, k0, k1, k2]) rfl ?_
  have R := H.out.off (Nat.le_refl _) (grown_then GB.out HG.out) HC.out (grown_then (grown_of_below (below_alloc (Below.refl w2.heap.size w2) (.cells #[.int .u32 mn, .int .u32 mx, .bool hs] 88)) _) (grown_set3 _ w.heap.size (.int .u32 mn) (.int .u32 mx) (.bool hs)))
  exact ⟨rfl, R.1, R.2⟩
set_option maxRecDepth 100000 in
theorem reads71_bad (h : Cur w g A c l a 0) (K : Nat) (caps : Array Value) (hcf : ∀ w : World, Sem.run Try.prog (callFunc K caps) w = .ok (.enter K caps) w) (mn mx : Int) (hs : Bool) (a1 e1 : Int) (he : e1 ≠ 0)
    (hK : Calls Try.prog K caps (w.alloc (.cells #[.int .u32 0, .int .u32 0, .bool false] 88)) (Did (w.alloc (.cells #[.int .u32 0, .int .u32 0, .bool false] 88)) g A c l (.agg #[.int .u32 mn, .int .u32 mx, .bool hs]) a1 e1)) : Calls Try.prog 71 #[.pointer (some ⟨g, 0, none⟩), .func (.func K) #[] caps] w (Did w g A c l (.agg #[.int .u32 0, .int .u32 0, .bool false]) a e1) := by
  have hb := below_alloc (Below.refl w.heap.size w) (.cells #[.int .u32 0, .int .u32 0, .bool false] 88)
  have h1 := h.below hb
  have GC := Aside0.mk (good_calls h1)
  have GB := Aside0.mk (grown_of_below hb (some g))
  have Q := Aside0.mk (fun (W : World) (hW : (w.alloc (.cells #[.int .u32 0, .int .u32 0, .bool false] 88)).grownBy W (some g)) => (show W.heap[w.heap.size]? = some (.cells #[.int .u32 0, .int .u32 0, .bool false] 88 (0, 0)) from (hW.block _ (by simp) (fun e => by have := Option.some.inj e; have := h.lt; omega)).trans (heap_alloc_new w _)))
  have H := Aside0.mk h
  have KC := Aside0.mk hK
  have BE := Aside0.mk (show (e1 == 0) = false from beq_eq_false_iff_ne.2 he)
  have x1 := h1.c1
  have hne : w.heap.size ≠ g := by have := h.lt; omega
  clear h hK h1 hb he
  go_enter Try.func71, Try.ntmps71
  go_wp2_with (first
    | (go_at_call 97; refine GC.out.mono ?_; rintro e1 w1 ⟨rfl, rfl⟩)
    | (refine KC.out.mono ?_; rintro e1 w2 ⟨rfl, hg, hc⟩; have hc2 := hc.below (below_alloc (Below.refl w2.heap.size w2) (.cells #[.int .u32 mn, .int .u32 mx, .bool hs] 88)); have q2 := (blk_set_ne ((heap_alloc_old (.cells #[.int .u32 mn, .int .u32 mx, .bool hs] 88) (blk_lt (Q.out w2 hg))).trans (Q.out w2 hg)) hne 1 (.int .i64 a)); have Q2 := Aside0.mk q2; have y0 := (blk_cell q2 0).trans rfl; have y1 := (blk_cell q2 1).trans rfl; have y2 := (blk_cell q2 2).trans rfl; have f0 := blk_frozen q2 0; have f1 := blk_frozen q2 1; have f2 := blk_frozen q2 2; clear q2; have HG := Aside0.mk hg; have HC2 := Aside0.mk hc2; have gc2 := good_calls hc2; rw [BE.out] at gc2; have GC2 := Aside0.mk gc2; have z1 := hc2.c1; have zf := hc2.f 1; clear hg hc hc2 gc2)
    | (refine GC2.out.mono ?_; rintro e1 w3 ⟨rfl, rfl⟩)
    | fail)
  have P := blk_put3 Q2.out (.int .u32 0) (.int .u32 0) (.bool false)
  have k0 := blk_cell P 0
  have k1 := blk_cell P 1
  have k2 := blk_cell P 2
  simp at k0 k1 k2
  refine bodyPost_ret (v := .agg #[.int .u32 0, .int .u32 0, .bool false]) (by simp [results, Try.results71, go_sem, k0, k1, k2]) rfl ?_
  have R := H.out.off (Nat.le_refl _) (grown_then GB.out (grown_then HG.out (grown_then (grown_of_below (below_alloc (Below.refl w2.heap.size w2) (.cells #[.int .u32 mn, .int .u32 mx, .bool hs] 88)) _) (grown_set _ g 1 (.int .i64 a))))) (HC2.out.set_at a H.out.lo H.out.hi) (grown_set3 _ w.heap.size (.int .u32 0) (.int .u32 0) (.bool false))
  exact ⟨rfl, R.1, R.2⟩
set_option maxRecDepth 100000 in
theorem reads77_nil (w : World) (K : Nat) (caps : Array Value) : Calls Try.prog 77 #[.pointer none, .func (.func K) #[] caps] w fun en w' => en = .returned (.agg #[.int .u8 0, .bool false]) ∧ Below w.heap.size w w' := by
  have q := heap_alloc_new w (.cells #[.int .u8 0, .bool false] 93)
  go_enter Try.func77, Try.ntmps77
  go_wp2
  have k0 := blk_cell q 0
  have k1 := blk_cell q 1
  simp at k0 k1
  refine bodyPost_ret (v := .agg #[.int .u8 0, .bool false]) (by simp [results, Try.results77, go_sem, k0, k1]) rfl ?_
  exact ⟨rfl, below_alloc (Below.refl _ _) _⟩
set_option maxRecDepth 100000 in
theorem reads77_off (h : Cur w g A c l a e) (he : e ≠ 0) (K : Nat) (caps : Array Value) : Calls Try.prog 77 #[.pointer (some ⟨g, 0, none⟩), .func (.func K) #[] caps] w (Did w g A c l (.agg #[.int .u8 0, .bool false]) a e) := by
  have h1 := h.below (below_alloc (Below.refl w.heap.size w) (.cells #[.int .u8 0, .bool false] 93))
  have GC := Aside0.mk (good_calls h1)
  rw [show (e == 0) = false from beq_eq_false_iff_ne.2 he] at GC
  have H := Aside0.mk h
  clear h he h1
  go_enter Try.func77, Try.ntmps77
  go_wp2_with (first | (go_at_call 97; refine GC.out.mono ?_; rintro e1 w1 ⟨rfl, rfl⟩) | fail)
  have q := heap_alloc_new w (.cells #[.int .u8 0, .bool false] 93)
  have k0 := blk_cell q 0
  have k1 := blk_cell q 1
  simp at k0 k1
  refine bodyPost_ret (v := .agg #[.int .u8 0, .bool false]) (by simp [results, Try.results77, go_sem, k0, k1]) rfl ?_
  exact ⟨rfl, grown_of_below (below_alloc (Below.refl _ _) _) _, H.out.below (below_alloc (Below.refl _ _) _)⟩
set_option maxRecDepth 100000 in
theorem reads77_ok (h : Cur w g A c l a 0) (K : Nat) (caps : Array Value) (hcf : ∀ w : World, Sem.run Try.prog (callFunc K caps) w = .ok (.enter K caps) w) (mn : Int) (hs : Bool) (a1 : Int)
    (hK : Calls Try.prog K caps (w.alloc (.cells #[.int .u8 0, .bool false] 93)) (Did (w.alloc (.cells #[.int .u8 0, .bool false] 93)) g A c l (.agg #[.int .u8 mn, .bool hs]) a1 0)) : Calls Try.prog 77 #[.pointer (some ⟨g, 0, none⟩), .func (.func K) #[] caps] w (Did w g A c l (.agg #[.int .u8 mn, .bool hs]) a1 0) := by
  have hb := below_alloc (Below.refl w.heap.size w) (.cells #[.int .u8 0, .bool false] 93)
  have h1 := h.below hb
  have GC := Aside0.mk (good_calls h1)
  have GB := Aside0.mk (grown_of_below hb (some g))
  have Q := Aside0.mk (fun (W : World) (hW : (w.alloc (.cells #[.int .u8 0, .bool false] 93)).grownBy W (some g)) => (show W.heap[w.heap.size]? = some (.cells #[.int .u8 0, .bool false] 93 (0, 0)) from (hW.block _ (by simp) (fun e => by have := Option.some.inj e; have := h.lt; omega)).trans (heap_alloc_new w _)))
  have H := Aside0.mk h
  have KC := Aside0.mk hK
  have x1 := h1.c1
  clear h hK h1 hb
  go_enter Try.func77, Try.ntmps77
  go_wp2_with (first
    | (go_at_call 97; refine GC.out.mono ?_; rintro e1 w1 ⟨rfl, rfl⟩)
    | (refine KC.out.mono ?_; rintro e1 w2 ⟨rfl, hg, hc⟩; have q2 := (heap_alloc_old (.cells #[.int .u8 mn, .bool hs] 93) (blk_lt (Q.out w2 hg))).trans (Q.out w2 hg); have Q2 := Aside0.mk q2; have y0 := (blk_cell q2 0).trans rfl; have y1 := (blk_cell q2 1).trans rfl; have f0 := blk_frozen q2 0; have f1 := blk_frozen q2 1; clear q2; have HG := Aside0.mk hg; have HC := Aside0.mk hc; have GC2 := Aside0.mk (good_calls (hc.below (below_alloc (Below.refl w2.heap.size w2) (.cells #[.int .u8 mn, .bool hs] 93)))); clear hg hc)
    | (refine GC2.out.mono ?_; rintro e1 w3 ⟨rfl, rfl⟩)
    | fail)
  have P := blk_put2 Q2.out (.int .u8 mn) (.bool hs)
  have k0 := blk_cell P 0
  have k1 := blk_cell P 1
  simp at k0 k1
  refine bodyPost_ret (v := .agg #[.int .u8 mn, .bool hs]) (by simp [results, Try.results77, go_sem, k0, k1]) rfl ?_
  have R := H.out.off (Nat.le_refl _) (grown_then GB.out HG.out) HC.out (grown_then (grown_of_below (below_alloc (Below.refl w2.heap.size w2) (.cells #[.int .u8 mn, .bool hs] 93)) _) (grown_set2 _ w.heap.size (.int .u8 mn) (.bool hs)))
  exact ⟨rfl, R.1, R.2⟩
set_option maxRecDepth 100000 in
theorem reads77_bad (h : Cur w g A c l a 0) (K : Nat) (caps : Array Value) (hcf : ∀ w : World, Sem.run Try.prog (callFunc K caps) w = .ok (.enter K caps) w) (mn : Int) (hs : Bool) (a1 e1 : Int) (he : e1 ≠ 0)
    (hK : Calls Try.prog K caps (w.alloc (.cells #[.int .u8 0, .bool false] 93)) (Did (w.alloc (.cells #[.int .u8 0, .bool false] 93)) g A c l (.agg #[.int .u8 mn, .bool hs]) a1 e1)) : Calls Try.prog 77 #[.pointer (some ⟨g, 0, none⟩), .func (.func K) #[] caps] w (Did w g A c l (.agg #[.int .u8 0, .bool false]) a e1) := by
  have hb := below_alloc (Below.refl w.heap.size w) (.cells #[.int .u8 0, .bool false] 93)
  have h1 := h.below hb
  have GC := Aside0.mk (good_calls h1)
  have GB := Aside0.mk (grown_of_below hb (some g))
  have Q := Aside0.mk (fun (W : World) (hW : (w.alloc (.cells #[.int .u8 0, .bool false] 93)).grownBy W (some g)) => (show W.heap[w.heap.size]? = some (.cells #[.int .u8 0, .bool false] 93 (0, 0)) from (hW.block _ (by simp) (fun e => by have := Option.some.inj e; have := h.lt; omega)).trans (heap_alloc_new w _)))
  have H := Aside0.mk h
  have KC := Aside0.mk hK
  have BE := Aside0.mk (show (e1 == 0) = false from beq_eq_false_iff_ne.2 he)
  have x1 := h1.c1
  have hne : w.heap.size ≠ g := by have := h.lt; omega
  clear h hK h1 hb he
  go_enter Try.func77, Try.ntmps77
  go_wp2_with (first
    | (go_at_call 97; refine GC.out.mono ?_; rintro e1 w1 ⟨rfl, rfl⟩)
    | (refine KC.out.mono ?_; rintro e1 w2 ⟨rfl, hg, hc⟩; have hc2 := hc.below (below_alloc (Below.refl w2.heap.size w2) (.cells #[.int .u8 mn, .bool hs] 93)); have q2 := (blk_set_ne ((heap_alloc_old (.cells #[.int .u8 mn, .bool hs] 93) (blk_lt (Q.out w2 hg))).trans (Q.out w2 hg)) hne 1 (.int .i64 a)); have Q2 := Aside0.mk q2; have y0 := (blk_cell q2 0).trans rfl; have y1 := (blk_cell q2 1).trans rfl; have f0 := blk_frozen q2 0; have f1 := blk_frozen q2 1; clear q2; have HG := Aside0.mk hg; have HC2 := Aside0.mk hc2; have gc2 := good_calls hc2; rw [BE.out] at gc2; have GC2 := Aside0.mk gc2; have z1 := hc2.c1; have zf := hc2.f 1; clear hg hc hc2 gc2)
    | (refine GC2.out.mono ?_; rintro e1 w3 ⟨rfl, rfl⟩)
    | fail)
  have P := blk_put2 Q2.out (.int .u8 0) (.bool false)
  have k0 := blk_cell P 0
  have k1 := blk_cell P 1
  simp at k0 k1
  refine bodyPost_ret (v := .agg #[.int .u8 0, .bool false]) (by simp [results, Try.results77, go_sem, k0, k1]) rfl ?_
  have R := H.out.off (Nat.le_refl _) (grown_then GB.out (grown_then HG.out (grown_then (grown_of_below (below_alloc (Below.refl w2.heap.size w2) (.cells #[.int .u8 mn, .bool hs] 93)) _) (grown_set _ g 1 (.int .i64 a))))) (HC2.out.set_at a H.out.lo H.out.hi) (grown_set2 _ w.heap.size (.int .u8 0) (.bool false))
  exact ⟨rfl, R.1, R.2⟩
/-- Two rows of bytes, new since lo. -/
def FuncP (lo : Nat) (ps qs : List Int) (r : Value) (w' : World) : Prop := ∃ A1 c1 A2 c2, r = .agg #[.slice A1 ps.length c1, .slice A2 qs.length c2] ∧ (ps.length ≤ c1 ∧ qs.length ≤ c2) ∧ Kd.F ku w' (fun k => lo ≤ k ∧ k < w'.heap.size) A1 ps.length ps ∧ Kd.F ku w' (fun k => lo ≤ k ∧ k < w'.heap.size) A2 qs.length qs
set_option maxRecDepth 100000 in
theorem reads66_nil (w : World) (K : Nat) (caps : Array Value) : Calls Try.prog 66 #[.pointer none, .func (.func K) #[] caps] w fun en w' => en = .returned (.agg #[.slice none 0 0, .slice none 0 0]) ∧ Below w.heap.size w w' := by
  have q := heap_alloc_new w (.cells #[.slice none 0 0, .slice none 0 0] 84)
  go_enter Try.func66, Try.ntmps66
  go_wp2
  have k0 := blk_cell q 0
  have k1 := blk_cell q 1
  simp at k0 k1
  refine bodyPost_ret (v := .agg #[.slice none 0 0, .slice none 0 0]) (by simp [results, Try.results66, go_sem, k0, k1]) rfl ?_
  exact ⟨rfl, below_alloc (Below.refl _ _) _⟩
set_option maxRecDepth 100000 in
theorem reads66_off (h : Cur w g A c l a e) (he : e ≠ 0) (K : Nat) (caps : Array Value) : Calls Try.prog 66 #[.pointer (some ⟨g, 0, none⟩), .func (.func K) #[] caps] w (Did w g A c l (.agg #[.slice none 0 0, .slice none 0 0]) a e) := by
  have h1 := h.below (below_alloc (Below.refl w.heap.size w) (.cells #[.slice none 0 0, .slice none 0 0] 84))
  have GC := Aside0.mk (good_calls h1)
  rw [show (e == 0) = false from beq_eq_false_iff_ne.2 he] at GC
  have H := Aside0.mk h
  clear h he h1
  go_enter Try.func66, Try.ntmps66
  go_wp2_with (first | (go_at_call 97; refine GC.out.mono ?_; rintro e1 w1 ⟨rfl, rfl⟩) | fail)
  have q := heap_alloc_new w (.cells #[.slice none 0 0, .slice none 0 0] 84)
  have k0 := blk_cell q 0
  have k1 := blk_cell q 1
  simp at k0 k1
  refine bodyPost_ret (v := .agg #[.slice none 0 0, .slice none 0 0]) (by simp [results, Try.results66, go_sem, k0, k1]) rfl ?_
  exact ⟨rfl, grown_of_below (below_alloc (Below.refl _ _) _) _, H.out.below (below_alloc (Below.refl _ _) _)⟩
set_option maxRecDepth 100000 in
theorem reads66_ok (h : Cur w g A c l a 0) (K : Nat) (caps : Array Value) (hcf : ∀ w : World, Sem.run Try.prog (callFunc K caps) w = .ok (.enter K caps) w) (ps qs : List Int) (a1 : Int)
    (hK : Calls Try.prog K caps (w.alloc (.cells #[.slice none 0 0, .slice none 0 0] 84)) (DidP (w.alloc (.cells #[.slice none 0 0, .slice none 0 0] 84)) g A c l (FuncP (w.heap.size + 1) ps qs) a1 0)) : Calls Try.prog 66 #[.pointer (some ⟨g, 0, none⟩), .func (.func K) #[] caps] w (DidP w g A c l (FuncP (w.heap.size + 1) ps qs) a1 0) := by
  have hb := below_alloc (Below.refl w.heap.size w) (.cells #[.slice none 0 0, .slice none 0 0] 84)
  have h1 := h.below hb
  have GC := Aside0.mk (good_calls h1)
  have GB := Aside0.mk (grown_of_below hb (some g))
  have Q := Aside0.mk (fun (W : World) (hW : (w.alloc (.cells #[.slice none 0 0, .slice none 0 0] 84)).grownBy W (some g)) => (show W.heap[w.heap.size]? = some (.cells #[.slice none 0 0, .slice none 0 0] 84 (0, 0)) from (hW.block _ (by simp) (fun e => by have := Option.some.inj e; have := h.lt; omega)).trans (heap_alloc_new w _)))
  have H := Aside0.mk h
  have KC := Aside0.mk hK
  have x1 := h1.c1
  clear h hK h1 hb
  go_enter Try.func66, Try.ntmps66
  go_wp2_with (first
    | (go_at_call 97; refine GC.out.mono ?_; rintro e1 w1 ⟨rfl, rfl⟩)
    | (refine KC.out.mono ?_; rintro e1 w2 ⟨r, rfl, ⟨A1, c1, A2, c2, rfl, hcc, hF1, hF2⟩, hg, hc⟩; have HF := Aside0.mk (And.intro hcc (And.intro hF1 hF2)); have LT := Aside0.mk hc.lt; have q2 := (heap_alloc_old (.cells #[.slice A1 ps.length c1, .slice A2 qs.length c2] 84) (blk_lt (Q.out w2 hg))).trans (Q.out w2 hg); have Q2 := Aside0.mk q2; have y0 := (blk_cell q2 0).trans rfl; have y1 := (blk_cell q2 1).trans rfl; have f0 := blk_frozen q2 0; have f1 := blk_frozen q2 1; clear q2; have HG := Aside0.mk hg; have HC := Aside0.mk hc; have GC2 := Aside0.mk (good_calls (hc.below (below_alloc (Below.refl w2.heap.size w2) (.cells #[.slice A1 ps.length c1, .slice A2 qs.length c2] 84)))); clear hg hc hcc hF1 hF2)
    | (refine GC2.out.mono ?_; rintro e1 w3 ⟨rfl, rfl⟩)
    | fail)
  have P := blk_put2 Q2.out (.slice A1 ps.length c1) (.slice A2 qs.length c2)
  have k0 := blk_cell P 0
  have k1 := blk_cell P 1
  simp at k0 k1
  refine bodyPost_ret (v := .agg #[.slice A1 ps.length c1, .slice A2 qs.length c2]) (by simp [results, Try.results66, go_sem, k0, k1]) rfl ?_
  have R := H.out.off (Nat.le_refl _) (grown_then GB.out HG.out) HC.out (grown_then (grown_of_below (below_alloc (Below.refl w2.heap.size w2) (.cells #[.slice A1 ps.length c1, .slice A2 qs.length c2] 84)) _) (grown_set2 _ w.heap.size (.slice A1 ps.length c1) (.slice A2 qs.length c2)))
  have G2 := grown_then (grown_of_below (below_alloc (Below.refl w2.heap.size w2) (.cells #[.slice A1 ps.length c1, .slice A2 qs.length c2] 84)) _) (grown_set2 _ w.heap.size (.slice A1 ps.length c1) (.slice A2 qs.length c2))
  obtain ⟨hcc, hF1, hF2⟩ := HF.out
  refine ⟨_, rfl, ⟨A1, c1, A2, c2, rfl, hcc, ?_, ?_⟩, R.1, R.2⟩
  · exact Kd.F_mono (Kd.F_step hF1 fun k hk hlt => G2.block k hlt (fun e => by have := Option.some.inj e; omega)) fun k hk => ⟨hk.1, Nat.lt_of_lt_of_le hk.2 G2.size⟩
  · exact Kd.F_mono (Kd.F_step hF2 fun k hk hlt => G2.block k hlt (fun e => by have := Option.some.inj e; omega)) fun k hk => ⟨hk.1, Nat.lt_of_lt_of_le hk.2 G2.size⟩
set_option maxRecDepth 100000 in
theorem reads66_bad (h : Cur w g A c l a 0) (K : Nat) (caps : Array Value) (hcf : ∀ w : World, Sem.run Try.prog (callFunc K caps) w = .ok (.enter K caps) w) (ps qs : List Int) (a1 e1 : Int) (he : e1 ≠ 0)
    (hK : Calls Try.prog K caps (w.alloc (.cells #[.slice none 0 0, .slice none 0 0] 84)) (DidP (w.alloc (.cells #[.slice none 0 0, .slice none 0 0] 84)) g A c l (FuncP (w.heap.size + 1) ps qs) a1 e1)) : Calls Try.prog 66 #[.pointer (some ⟨g, 0, none⟩), .func (.func K) #[] caps] w (Did w g A c l (.agg #[.slice none 0 0, .slice none 0 0]) a e1) := by
  have hb := below_alloc (Below.refl w.heap.size w) (.cells #[.slice none 0 0, .slice none 0 0] 84)
  have h1 := h.below hb
  have GC := Aside0.mk (good_calls h1)
  have GB := Aside0.mk (grown_of_below hb (some g))
  have Q := Aside0.mk (fun (W : World) (hW : (w.alloc (.cells #[.slice none 0 0, .slice none 0 0] 84)).grownBy W (some g)) => (show W.heap[w.heap.size]? = some (.cells #[.slice none 0 0, .slice none 0 0] 84 (0, 0)) from (hW.block _ (by simp) (fun e => by have := Option.some.inj e; have := h.lt; omega)).trans (heap_alloc_new w _)))
  have H := Aside0.mk h
  have KC := Aside0.mk hK
  have BE := Aside0.mk (show (e1 == 0) = false from beq_eq_false_iff_ne.2 he)
  have x1 := h1.c1
  have hne : w.heap.size ≠ g := by have := h.lt; omega
  clear h hK h1 hb he
  go_enter Try.func66, Try.ntmps66
  go_wp2_with (first
    | (go_at_call 97; refine GC.out.mono ?_; rintro e1 w1 ⟨rfl, rfl⟩)
    | (refine KC.out.mono ?_; rintro e1 w2 ⟨r, rfl, ⟨A1, c1, A2, c2, rfl, hcc, hF1, hF2⟩, hg, hc⟩; have hc2 := hc.below (below_alloc (Below.refl w2.heap.size w2) (.cells #[.slice A1 ps.length c1, .slice A2 qs.length c2] 84)); have q2 := (blk_set_ne ((heap_alloc_old (.cells #[.slice A1 ps.length c1, .slice A2 qs.length c2] 84) (blk_lt (Q.out w2 hg))).trans (Q.out w2 hg)) hne 1 (.int .i64 a)); have Q2 := Aside0.mk q2; have y0 := (blk_cell q2 0).trans rfl; have y1 := (blk_cell q2 1).trans rfl; have f0 := blk_frozen q2 0; have f1 := blk_frozen q2 1; clear q2; have HG := Aside0.mk hg; have HC2 := Aside0.mk hc2; have gc2 := good_calls hc2; rw [BE.out] at gc2; have GC2 := Aside0.mk gc2; have z1 := hc2.c1; have zf := hc2.f 1; clear hg hc hc2 gc2 hcc hF1 hF2)
    | (refine GC2.out.mono ?_; rintro e1 w3 ⟨rfl, rfl⟩)
    | fail)
  have P := blk_put2 Q2.out (.slice none 0 0) (.slice none 0 0)
  have k0 := blk_cell P 0
  have k1 := blk_cell P 1
  simp at k0 k1
  refine bodyPost_ret (v := .agg #[.slice none 0 0, .slice none 0 0]) (by simp [results, Try.results66, go_sem, k0, k1]) rfl ?_
  have R := H.out.off (Nat.le_refl _) (grown_then GB.out (grown_then HG.out (grown_then (grown_of_below (below_alloc (Below.refl w2.heap.size w2) (.cells #[.slice A1 ps.length c1, .slice A2 qs.length c2] 84)) _) (grown_set _ g 1 (.int .i64 a))))) (HC2.out.set_at a H.out.lo H.out.hi) (grown_set2 _ w.heap.size (.slice none 0 0) (.slice none 0 0))
  exact ⟨rfl, R.1, R.2⟩
end
end Go.Proofs.Ytjhdnlgbboboiaa.Scan

/- The walks of Limits, Global, Table. -/
namespace Go.Proofs.Ytjhdnlgbboboiaa.Scan
open Go.Proofs.Ytjhdnlgbboboiaa.Leb Go.Proofs.Ytjhdnlgbboboiaa.Mem Go.RowKit Go.Proofs.YtjhdnlgbboboiaaW.PrintWords Go.Proofs.YtjhdnlgbboboiaaW.PrintLast Go.Proofs.YtjhdnlgbboboiaaW.PrintMore Go.Proofs.Ytjhdnlgbboboiaa.Base
set_option linter.unusedVariables false
set_option linter.unusedSimpArgs false
abbrev Lim : Type := Int × Int × Bool
def limV (x : Lim) : Value := .agg #[.int .u32 x.1, .int .u32 x.2.1, .bool x.2.2]
def gloV (x : Int × Bool) : Value := .agg #[.int .u8 x.1, .bool x.2]
def limitsB (l : List Int) (a : Int) : Lim × Int × Int :=
  let h := amongM 107 [0, 1] l a 0
  let m := u32M l h.2.1 h.2.2
  let x := u32M l m.2.1 m.2.2
  if h.1 = 1 then ((m.1, x.1, true), x.2) else ((m.1, 0, false), m.2)
def limitsM (l : List Int) (a e : Int) : Lim × Int × Int := readsM (0, 0, false) (limitsB l a) a e
def globalB (l : List Int) (a : Int) : (Int × Bool) × Int × Int :=
  let t := valueM l a 0
  let m := amongM 107 [0, 1] l t.2.1 t.2.2
  ((t.1, m.1 == 1), m.2)
def globalM (l : List Int) (a e : Int) : (Int × Bool) × Int × Int := readsM (0, false) (globalB l a) a e
def tableB (l : List Int) (a : Int) : Lim × Int × Int :=
  let x := amongM 106 [112] l a 0
  limitsM l x.2.1 x.2.2
def tableM (l : List Int) (a e : Int) : Lim × Int × Int := readsM (0, 0, false) (tableB l a) a e
section
variable {w w2 W W' : World} {g c : Nat} {A : Option Addr} {l : List Int} {a e a1 e1 : Int}
theorem reads71_any (h : Cur w g A c l a 0) (K : Nat) (caps : Array Value) (hcf : ∀ w : World, Sem.run Try.prog (callFunc K caps) w = .ok (.enter K caps) w) (r : Lim × Int × Int)
    (hK : Calls Try.prog K caps (w.alloc (.cells #[.int .u32 0, .int .u32 0, .bool false] 88)) (Did (w.alloc (.cells #[.int .u32 0, .int .u32 0, .bool false] 88)) g A c l (limV r.1) r.2.1 r.2.2)) :
    Calls Try.prog 71 #[.pointer (some ⟨g, 0, none⟩), .func (.func K) #[] caps] w (Did w g A c l (limV (rM (0, 0, false) r a).1) (rM (0, 0, false) r a).2.1 (rM (0, 0, false) r a).2.2) := by
  obtain ⟨⟨v1, v2, v3⟩, a1, e1⟩ := r
  unfold rM
  by_cases he : e1 = 0
  · subst he
    simp only [if_true]
    exact reads71_ok h K caps hcf v1 v2 v3 a1 hK
  · simp only [if_neg he]
    exact reads71_bad h K caps hcf v1 v2 v3 a1 e1 he hK
theorem reads77_any (h : Cur w g A c l a 0) (K : Nat) (caps : Array Value) (hcf : ∀ w : World, Sem.run Try.prog (callFunc K caps) w = .ok (.enter K caps) w) (r : (Int × Bool) × Int × Int)
    (hK : Calls Try.prog K caps (w.alloc (.cells #[.int .u8 0, .bool false] 93)) (Did (w.alloc (.cells #[.int .u8 0, .bool false] 93)) g A c l (gloV r.1) r.2.1 r.2.2)) :
    Calls Try.prog 77 #[.pointer (some ⟨g, 0, none⟩), .func (.func K) #[] caps] w (Did w g A c l (gloV (rM (0, false) r a).1) (rM (0, false) r a).2.1 (rM (0, false) r a).2.2) := by
  obtain ⟨⟨v1, v2⟩, a1, e1⟩ := r
  unfold rM
  by_cases he : e1 = 0
  · subst he
    simp only [if_true]
    exact reads77_ok h K caps hcf v1 v2 a1 hK
  · simp only [if_neg he]
    exact reads77_bad h K caps hcf v1 v2 a1 e1 he hK
/-- The box of a closure that has the cursor. -/
theorem cap_keep {bc : Nat} {o : Obj} (hb : w.heap[bc]? = some o) (hbc : bc ≠ g) (hg : w.grownBy W (some g)) : W.heap[bc]? = some o := (hg.block bc (blk_lt hb) (fun e => hbc (Option.some.inj e))).trans hb
set_option maxRecDepth 100000 in
set_option maxHeartbeats 1000000 in
theorem Table1_pre (h : Cur w g A c l a 0) (bc : Nat) (hbc : bc ≠ g) (cb : w.heap[bc]? = some (.cells #[.pointer (some ⟨g, 0, none⟩)] 53 (0, 0)))
    (LC : ∀ W a1 e1, Cur W g A c l a1 e1 → Calls Try.prog 54 #[.pointer (some ⟨g, 0, none⟩)] W (Did W g A c l (limV (limitsM l a1 e1).1) (limitsM l a1 e1).2.1 (limitsM l a1 e1).2.2)) :
    Calls Try.prog 80 #[.pointer (some ⟨bc, 0, none⟩)] w (Did w g A c l (limV (tableB l a).1) (tableB l a).2.1 (tableB l a).2.2) := by
  have hu := Try.underlying22
  have hb := below_alloc (Below.refl w.heap.size w) (.cells #[.int .u32 0, .int .u32 0, .bool false] 88)
  have h1 := h.below hb
  have AC := among_laid h1 106 (by decide) [112] (by decide) 5
  rw [World.size_alloc] at AC
  replace AC := Aside0.mk AC
  have GB := Aside0.mk (grown_of_below hb (some g))
  have q0 := heap_alloc_new w (.cells #[.int .u32 0, .int .u32 0, .bool false] 88)
  have Q := Aside0.mk (fun (W : World) (hW : (w.alloc (.cells #[.int .u32 0, .int .u32 0, .bool false] 88)).grownBy W (some g)) => (And.intro (cap_keep q0 (by have := h.lt; omega) hW) (cap_keep ((hb.block bc (blk_lt cb)).trans cb) hbc hW)))
  have H := Aside0.mk h
  unfold tableB
  obtain ⟨u, hu_⟩ : ∃ u, u = amongM 106 [112] l a 0 := ⟨_, rfl⟩
  rw [← hu_] at AC ⊢
  obtain ⟨b, ba, be⟩ := u
  simp only at AC ⊢
  obtain ⟨y, hy⟩ : ∃ y, y = limitsM l ba be := ⟨_, rfl⟩
  have LC2 := Aside0.mk (fun W hC => LC W ba be hC)
  rw [← hy] at LC2 ⊢
  obtain ⟨⟨y1, y2, y3⟩, ya, ye⟩ := y
  simp only at LC2 ⊢
  have cb0 : (w.alloc (.cells #[.int .u32 0, .int .u32 0, .bool false] 88)).cell? ⟨bc, 0, none⟩ = some (.pointer (some ⟨g, 0, none⟩)) := (blk_cell ((hb.block bc (blk_lt cb)).trans cb) 0).trans rfl
  clear h h1 hb q0 hu_ hy LC cb hbc
  unfold limV at LC2 ⊢
  go_enter Try.func80, Try.ntmps80
  go_wp2_with (first
    | (go_at_call 68; refine AC.out.mono ?_; rintro e1 w1 ⟨rfl, hg, hc⟩; have HG := Aside0.mk hg; have LC3 := Aside0.mk (LC2.out w1 hc); have cb1 := (blk_cell (Q.out w1 hg).2 0).trans rfl; clear hg hc)
    | (go_at_call 54; refine LC3.out.mono ?_; rintro e1 w2 ⟨rfl, hg, hc⟩; have hg2 := grown_then HG.out hg; have q2 := (Q.out w2 hg2).1; have Q2 := Aside0.mk q2; have y0 := (blk_cell q2 0).trans rfl; have z1 := (blk_cell q2 1).trans rfl; have z2 := (blk_cell q2 2).trans rfl; have f0 := blk_frozen q2 0; have f1 := blk_frozen q2 1; have f2 := blk_frozen q2 2; clear q2; have HG2 := Aside0.mk hg2; have HC := Aside0.mk hc; clear hg hc hg2)
    | fail)
  have P := blk_put3 Q2.out (.int .u32 y1) (.int .u32 y2) (.bool y3)
  have k0 := blk_cell P 0
  have k1 := blk_cell P 1
  have k2 := blk_cell P 2
  simp at k0 k1 k2
  refine bodyPost_ret (v := .agg #[.int .u32 y1, .int .u32 y2, .bool y3]) (by simp [results, Try.results80, go_sem, k0, k1, k2]) rfl ?_
  have R := H.out.off (Nat.le_refl _) (grown_then GB.out HG2.out) HC.out (grown_set3 _ w.heap.size (.int .u32 y1) (.int .u32 y2) (.bool y3))
  exact ⟨rfl, R.1, R.2⟩
set_option maxRecDepth 100000 in
set_option maxHeartbeats 1000000 in
theorem Global1_calls (h : Cur w g A c l a 0) (bc : Nat) (hbc : bc ≠ g) (cb : w.heap[bc]? = some (.cells #[.pointer (some ⟨g, 0, none⟩)] 53 (0, 0))) :
    Calls Try.prog 78 #[.pointer (some ⟨bc, 0, none⟩)] w (Did w g A c l (gloV (globalB l a).1) (globalB l a).2.1 (globalB l a).2.2) := by
  have hu := Try.underlying22
  have hb := below_alloc (Below.refl w.heap.size w) (.cells #[.int .u8 0, .bool false] 93)
  have h1 := h.below hb
  have VC := Aside0.mk (Value_calls h1)
  have GB := Aside0.mk (grown_of_below hb (some g))
  have q0 := heap_alloc_new w (.cells #[.int .u8 0, .bool false] 93)
  have Q := Aside0.mk (fun (W : World) (hW : (w.alloc (.cells #[.int .u8 0, .bool false] 93)).grownBy W (some g)) => (And.intro (cap_keep q0 (by have := h.lt; omega) hW) (cap_keep ((hb.block bc (blk_lt cb)).trans cb) hbc hW)))
  have H := Aside0.mk h
  unfold globalB
  obtain ⟨u, hu_⟩ : ∃ u, u = valueM l a 0 := ⟨_, rfl⟩
  rw [← hu_] at VC ⊢
  obtain ⟨b, ba, be⟩ := u
  simp only at VC ⊢
  have AC := Aside0.mk (fun W (hC : Cur W g A c l ba be) => among_laid hC 107 (by decide) [0, 1] (by decide) 5)
  obtain ⟨y, hy⟩ : ∃ y, y = amongM 107 [0, 1] l ba be := ⟨_, rfl⟩
  rw [← hy] at AC ⊢
  obtain ⟨m, ya, ye⟩ := y
  simp only at AC ⊢
  obtain ⟨hs, hhs⟩ : ∃ hs, hs = ((m : Int) == 1) := ⟨_, rfl⟩
  have d1 : ((m : Int) == 1) = hs := hhs.symm
  rw [d1]
  have cb0 : (w.alloc (.cells #[.int .u8 0, .bool false] 93)).cell? ⟨bc, 0, none⟩ = some (.pointer (some ⟨g, 0, none⟩)) := (blk_cell ((hb.block bc (blk_lt cb)).trans cb) 0).trans rfl
  clear h h1 hb q0 hu_ hy cb hbc hhs
  unfold gloV
  go_enter Try.func78, Try.ntmps78
  go_wp2_with (first
    | (go_at_call 70; refine VC.out.mono ?_; rintro e1 w1 ⟨rfl, hg, hc⟩; have HG := Aside0.mk hg; have AC2 := Aside0.mk (AC.out w1 hc); have cb1 := (blk_cell (Q.out w1 hg).2 0).trans rfl; clear hg hc)
    | (go_at_call 68; refine AC2.out.mono ?_; rintro e1 w2 ⟨rfl, hg, hc⟩; have hg2 := grown_then HG.out hg; have q2 := (Q.out w2 hg2).1; have Q2 := Aside0.mk q2; have y0 := (blk_cell q2 0).trans rfl; have z1 := (blk_cell q2 1).trans rfl; have f0 := blk_frozen q2 0; have f1 := blk_frozen q2 1; clear q2; have HG2 := Aside0.mk hg2; have HC := Aside0.mk hc; clear hg hc hg2)
    | fail)
  have P := blk_put2 Q2.out (.int .u8 b) (.bool hs)
  have k0 := blk_cell P 0
  have k1 := blk_cell P 1
  simp at k0 k1
  refine bodyPost_ret (v := .agg #[.int .u8 b, .bool hs]) (by simp [results, Try.results78, go_sem, k0, k1]) rfl ?_
  have R := H.out.off (Nat.le_refl _) (grown_then GB.out HG2.out) HC.out (grown_set2 _ w.heap.size (.int .u8 b) (.bool hs))
  exact ⟨rfl, R.1, R.2⟩
set_option maxRecDepth 100000 in
set_option maxHeartbeats 1000000 in
theorem Limits1_calls (h : Cur w g A c l a 0) (bc : Nat) (hbc : bc ≠ g) (cb : w.heap[bc]? = some (.cells #[.pointer (some ⟨g, 0, none⟩)] 53 (0, 0))) :
    Calls Try.prog 72 #[.pointer (some ⟨bc, 0, none⟩)] w (Did w g A c l (limV (limitsB l a).1) (limitsB l a).2.1 (limitsB l a).2.2) := by
  have hu := Try.underlying22
  have hb := below_alloc (Below.refl w.heap.size w) (.cells #[.int .u32 0, .int .u32 0, .bool false] 88)
  have h1 := h.below hb
  have AC := among_laid h1 107 (by decide) [0, 1] (by decide) 5
  rw [World.size_alloc] at AC
  replace AC := Aside0.mk AC
  have GB := Aside0.mk (grown_of_below hb (some g))
  have q0 := heap_alloc_new w (.cells #[.int .u32 0, .int .u32 0, .bool false] 88)
  have Q := Aside0.mk (fun (W : World) (hW : (w.alloc (.cells #[.int .u32 0, .int .u32 0, .bool false] 88)).grownBy W (some g)) => (And.intro (cap_keep q0 (by have := h.lt; omega) hW) (cap_keep ((hb.block bc (blk_lt cb)).trans cb) hbc hW)))
  have H := Aside0.mk h
  unfold limitsB
  obtain ⟨u, hu_⟩ : ∃ u, u = amongM 107 [0, 1] l a 0 := ⟨_, rfl⟩
  rw [← hu_] at AC ⊢
  obtain ⟨b, ba, be⟩ := u
  simp only at AC ⊢
  have UC := Aside0.mk (fun W (hC : Cur W g A c l ba be) => U32_calls hC)
  obtain ⟨y, hy⟩ : ∃ y, y = u32M l ba be := ⟨_, rfl⟩
  rw [← hy] at UC ⊢
  obtain ⟨m, ma, me⟩ := y
  simp only at UC ⊢
  have XC := Aside0.mk (fun W (hC : Cur W g A c l ma me) => U32_calls hC)
  obtain ⟨x, hx⟩ : ∃ x, x = u32M l ma me := ⟨_, rfl⟩
  rw [← hx] at XC ⊢
  obtain ⟨n, na, ne⟩ := x
  simp only at XC ⊢
  have cb0 : (w.alloc (.cells #[.int .u32 0, .int .u32 0, .bool false] 88)).cell? ⟨bc, 0, none⟩ = some (.pointer (some ⟨g, 0, none⟩)) := (blk_cell ((hb.block bc (blk_lt cb)).trans cb) 0).trans rfl
  unfold limV
  have BC := Aside0.mk (blk_lt cb)
  clear h h1 hb q0 hu_ hy hx cb hbc
  by_cases hbb : b = 1
  · have d1 : ((b : Int) == 1) = true := beq_iff_eq.2 hbb
    rw [if_pos hbb]
    clear hbb
    go_enter Try.func72, Try.ntmps72
    go_wp2_with (first
      | (go_at_call 73; refine XC1.out.mono ?_; rintro e1 w3 ⟨rfl, hg, hc⟩
         clear y0 y1 y2 z0 z1 z2 f0 f1 f2 g2 k_2 cb1 cb2
         have hne : w1.heap.size ≠ g := by have := LT1.out; have := H.out.lt; omega
         have x4 := cap_keep X3.out hne hg
         have g4 := blk_frozen x4 1
         have k_4 := (blk_cell x4 1).trans rfl
         have x5 := blk_set x4 1 (.int .u32 n)
         have u0 := (blk_cell x5 0).trans rfl
         have u1 := (blk_cell x5 1).trans rfl
         have u2 := (blk_cell x5 2).trans rfl
         have hgs := H.out.off (Nat.le_of_lt LT1.out) (grown_then HS2.out.1 hg) hc (grown_set w3 w1.heap.size 1 (.int .u32 n))
         have q3 := blk_set_ne (cap_keep Q1.out (by have := H.out.lt; omega) hg) (t := w1.heap.size) (by have := LT1.out; omega) 1 (.int .u32 n)
         have Q3 := Aside0.mk q3
         have z0 := (blk_cell q3 0).trans rfl
         have z1 := (blk_cell q3 1).trans rfl
         have z2 := (blk_cell q3 2).trans rfl
         have f0 := blk_frozen q3 0
         have f1 := blk_frozen q3 1
         have f2 := blk_frozen q3 2
         have HS3 := Aside0.mk hgs
         clear hg hc hgs q3 x4 x5 hne)
      | (go_at_call 73; refine UC1.out.mono ?_; rintro e1 w2 ⟨rfl, hg, hc⟩
         have hne : w1.heap.size ≠ g := by have := LT1.out; have := H.out.lt; omega
         have x2 := cap_keep QX.out hne hg
         have g2 := blk_frozen x2 0
         have k_2 := (blk_cell x2 0).trans rfl
         have x3 := blk_set x2 0 (.int .u32 m)
         have X3 := Aside0.mk x3
         have y0 := (blk_cell x3 0).trans rfl
         have y1 := (blk_cell x3 1).trans rfl
         have y2 := (blk_cell x3 2).trans rfl
         have hgs := H.out.off (Nat.le_of_lt LT1.out) (grown_then HGX.out hg) hc (grown_set w2 w1.heap.size 0 (.int .u32 m))
         have q := Q.out w2 (grown_then HG1.out hg)
         have q1 := blk_set_ne q.1 (t := w1.heap.size) (by have := LT1.out; omega) 0 (.int .u32 m)
         have Q1 := Aside0.mk q1
         have cb2 := (blk_cell (blk_set_ne q.2 (t := w1.heap.size) (by have := LT1.out; have := BC.out; omega) 0 (.int .u32 m)) 0).trans rfl
         have z0 := (blk_cell q1 0).trans rfl
         have z1 := (blk_cell q1 1).trans rfl
         have z2 := (blk_cell q1 2).trans rfl
         have f0 := blk_frozen q1 0
         have f1 := blk_frozen q1 1
         have f2 := blk_frozen q1 2
         have HS2 := Aside0.mk hgs
         have XC1 := Aside0.mk (XC.out _ hgs.2)
         clear hg hc hgs q q1 x2 x3 hne)
      | (go_at_call 68; refine AC.out.mono ?_; rintro e1 w1 ⟨rfl, hg, hc⟩
         have hb1 := below_alloc (Below.refl w1.heap.size w1) (.cells #[.int .u32 0, .int .u32 0, .bool true] 88)
         have QX := Aside0.mk (heap_alloc_new w1 (.cells #[.int .u32 0, .int .u32 0, .bool true] 88))
         have UC1 := Aside0.mk (UC.out (w1.alloc (.cells #[.int .u32 0, .int .u32 0, .bool true] 88)) (hc.below hb1))
         have HGX := Aside0.mk (grown_then (grown_then GB.out hg) (grown_of_below hb1 _))
         have HG1 := Aside0.mk (grown_then hg (grown_of_below hb1 (some g)))
         have cb1 := (blk_cell (Q.out _ HG1.out).2 0).trans rfl
         have LT1 := Aside0.mk (show w.heap.size < w1.heap.size from Nat.lt_of_lt_of_le (by simp) hg.size)
         clear hg hc hb1)
      | fail)
    have P := blk_put3 Q3.out (.int .u32 m) (.int .u32 n) (.bool true)
    have k0 := blk_cell P 0
    have k1 := blk_cell P 1
    have k2 := blk_cell P 2
    simp at k0 k1 k2
    refine bodyPost_ret (v := .agg #[.int .u32 m, .int .u32 n, .bool true]) (by simp [results, Try.results72, go_sem, k0, k1, k2]) rfl ?_
    have R := H.out.off (Nat.le_refl _) HS3.out.1 HS3.out.2 (grown_set3 _ w.heap.size (.int .u32 m) (.int .u32 n) (.bool true))
    exact ⟨rfl, R.1, R.2⟩
  · have d1 : ((b : Int) == 1) = false := beq_eq_false_iff_ne.2 hbb
    rw [if_neg hbb]
    clear hbb
    go_enter Try.func72, Try.ntmps72
    go_wp2_with (first
      | (go_at_call 73; refine UC1.out.mono ?_; rintro e1 w2 ⟨rfl, hg, hc⟩
         have hne : w1.heap.size ≠ g := by have := LT1.out; have := H.out.lt; omega
         have x2 := cap_keep QX.out hne hg
         have g2 := blk_frozen x2 0
         have k_2 := (blk_cell x2 0).trans rfl
         have x3 := blk_set x2 0 (.int .u32 m)
         have X3 := Aside0.mk x3
         have y0 := (blk_cell x3 0).trans rfl
         have y1 := (blk_cell x3 1).trans rfl
         have y2 := (blk_cell x3 2).trans rfl
         have hgs := H.out.off (Nat.le_of_lt LT1.out) (grown_then HGX.out hg) hc (grown_set w2 w1.heap.size 0 (.int .u32 m))
         have q := Q.out w2 (grown_then HG1.out hg)
         have q1 := blk_set_ne q.1 (t := w1.heap.size) (by have := LT1.out; omega) 0 (.int .u32 m)
         have Q1 := Aside0.mk q1
         have cb2 := (blk_cell (blk_set_ne q.2 (t := w1.heap.size) (by have := LT1.out; have := BC.out; omega) 0 (.int .u32 m)) 0).trans rfl
         have z0 := (blk_cell q1 0).trans rfl
         have z1 := (blk_cell q1 1).trans rfl
         have z2 := (blk_cell q1 2).trans rfl
         have f0 := blk_frozen q1 0
         have f1 := blk_frozen q1 1
         have f2 := blk_frozen q1 2
         have HS2 := Aside0.mk hgs
         have XC1 := Aside0.mk (XC.out _ hgs.2)
         clear hg hc hgs q q1 x2 x3 hne)
      | (go_at_call 68; refine AC.out.mono ?_; rintro e1 w1 ⟨rfl, hg, hc⟩
         have hb1 := below_alloc (Below.refl w1.heap.size w1) (.cells #[.int .u32 0, .int .u32 0, .bool false] 88)
         have QX := Aside0.mk (heap_alloc_new w1 (.cells #[.int .u32 0, .int .u32 0, .bool false] 88))
         have UC1 := Aside0.mk (UC.out (w1.alloc (.cells #[.int .u32 0, .int .u32 0, .bool false] 88)) (hc.below hb1))
         have HGX := Aside0.mk (grown_then (grown_then GB.out hg) (grown_of_below hb1 _))
         have HG1 := Aside0.mk (grown_then hg (grown_of_below hb1 (some g)))
         have cb1 := (blk_cell (Q.out _ HG1.out).2 0).trans rfl
         have LT1 := Aside0.mk (show w.heap.size < w1.heap.size from Nat.lt_of_lt_of_le (by simp) hg.size)
         clear hg hc hb1)
      | fail)
    have P := blk_put3 Q1.out (.int .u32 m) (.int .u32 0) (.bool false)
    have k0 := blk_cell P 0
    have k1 := blk_cell P 1
    have k2 := blk_cell P 2
    simp at k0 k1 k2
    refine bodyPost_ret (v := .agg #[.int .u32 m, .int .u32 0, .bool false]) (by simp [results, Try.results72, go_sem, k0, k1, k2]) rfl ?_
    have R := H.out.off (Nat.le_refl _) HS2.out.1 HS2.out.2 (grown_set3 _ w.heap.size (.int .u32 m) (.int .u32 0) (.bool false))
    exact ⟨rfl, R.1, R.2⟩
set_option maxRecDepth 100000 in
set_option maxHeartbeats 1000000 in
theorem Limits_calls (h : Cur w g A c l a e) : Calls Try.prog 54 #[.pointer (some ⟨g, 0, none⟩)] w (Did w g A c l (limV (limitsM l a e).1) (limitsM l a e).2.1 (limitsM l a e).2.2) := by
  have hb0 := below_alloc (Below.refl w.heap.size w) (.cells #[.pointer (some ⟨g, 0, none⟩)] 53)
  have hb := hb0.alloc hb0.size (.cells #[.int .u32 0, .int .u32 0, .bool false] 88)
  have h1 := h.below hb
  have GB := Aside0.mk (grown_of_below hb (some g))
  have cb := (heap_alloc_old (.cells #[.int .u32 0, .int .u32 0, .bool false] 88) (blk_lt (heap_alloc_new w (.cells #[.pointer (some ⟨g, 0, none⟩)] 53)))).trans (heap_alloc_new w (.cells #[.pointer (some ⟨g, 0, none⟩)] 53))
  have q0 := heap_alloc_new (w.alloc (.cells #[.pointer (some ⟨g, 0, none⟩)] 53)) (.cells #[.int .u32 0, .int .u32 0, .bool false] 88)
  rw [World.size_alloc] at q0
  have hne : w.heap.size ≠ g := by have := h.lt; omega
  have hne1 : w.heap.size + 1 ≠ g := by have := h.lt; omega
  have H := Aside0.mk h
  have Q := Aside0.mk (fun (W : World) (hW : ((w.alloc (.cells #[.pointer (some ⟨g, 0, none⟩)] 53)).alloc (.cells #[.int .u32 0, .int .u32 0, .bool false] 88)).grownBy W (some g)) => cap_keep q0 hne1 hW)
  have RC : Calls Try.prog 71 #[.pointer (some ⟨g, 0, none⟩), .func (.func 72) #[] #[.pointer (some ⟨w.heap.size, 0, none⟩)]] ((w.alloc (.cells #[.pointer (some ⟨g, 0, none⟩)] 53)).alloc (.cells #[.int .u32 0, .int .u32 0, .bool false] 88)) (Did ((w.alloc (.cells #[.pointer (some ⟨g, 0, none⟩)] 53)).alloc (.cells #[.int .u32 0, .int .u32 0, .bool false] 88)) g A c l (limV (limitsM l a e).1) (limitsM l a e).2.1 (limitsM l a e).2.2) := by
    by_cases he : e = 0
    · subst he
      have e1 : limitsM l a 0 = rM (0, 0, false) (limitsB l a) a := by unfold limitsM readsM; rw [if_pos rfl]
      rw [e1]
      have hb2 := below_alloc (Below.refl _ ((w.alloc (.cells #[.pointer (some ⟨g, 0, none⟩)] 53)).alloc (.cells #[.int .u32 0, .int .u32 0, .bool false] 88))) (.cells #[.int .u32 0, .int .u32 0, .bool false] 88)
      exact reads71_any h1 72 #[.pointer (some ⟨w.heap.size, 0, none⟩)] (fun w => by go_simp) (limitsB l a) (Limits1_calls (h1.below hb2) _ hne ((hb2.block _ (blk_lt cb)).trans cb))
    · have e1 : limitsM l a e = ((0, 0, false), a, e) := by unfold limitsM readsM; rw [if_neg he]
      rw [e1]
      exact reads71_off h1 he 72 #[.pointer (some ⟨w.heap.size, 0, none⟩)]
  replace RC := Aside0.mk RC
  obtain ⟨r, hr⟩ : ∃ r, r = limitsM l a e := ⟨_, rfl⟩
  rw [← hr] at RC ⊢
  obtain ⟨⟨v1, v2, v3⟩, a1, e1⟩ := r
  simp only [limV] at RC ⊢
  clear h h1 hb hb0 cb q0 hr hne hne1
  go_enter Try.func54, Try.ntmps54
  go_wp2_with (first
    | (go_at_call 71; refine RC.out.mono ?_; rintro e1 w1 ⟨rfl, hg, hc⟩; have q2 := Q.out w1 hg; have Q2 := Aside0.mk q2; have y0 := (blk_cell q2 0).trans rfl; have y1 := (blk_cell q2 1).trans rfl; have y2 := (blk_cell q2 2).trans rfl; have f0 := blk_frozen q2 0; have f1 := blk_frozen q2 1; have f2 := blk_frozen q2 2; clear q2; have HG := Aside0.mk hg; have HC := Aside0.mk hc; clear hg hc)
    | fail)
  have P := blk_put3 Q2.out (.int .u32 v1) (.int .u32 v2) (.bool v3)
  have k0 := blk_cell P 0
  have k1 := blk_cell P 1
  have k2 := blk_cell P 2
  simp at k0 k1 k2
  refine bodyPost_ret (v := .agg #[.int .u32 v1, .int .u32 v2, .bool v3]) (by simp [results, Try.results54, go_sem, k0, k1, k2]) rfl ?_
  have R := H.out.off (show w.heap.size ≤ w.heap.size + 1 by omega) (grown_then GB.out HG.out) HC.out (grown_set3 _ (w.heap.size + 1) (.int .u32 v1) (.int .u32 v2) (.bool v3))
  exact ⟨rfl, R.1, R.2⟩
set_option maxRecDepth 100000 in
theorem Limits_nil (w : World) : Calls Try.prog 54 #[.pointer none] w fun en w' => en = .returned (limV (0, 0, false)) ∧ Below w.heap.size w w' := by
  have hb0 := below_alloc (Below.refl w.heap.size w) (.cells #[.pointer none] 53)
  have hb := hb0.alloc hb0.size (.cells #[.int .u32 0, .int .u32 0, .bool false] 88)
  have q0 := heap_alloc_new (w.alloc (.cells #[.pointer none] 53)) (.cells #[.int .u32 0, .int .u32 0, .bool false] 88)
  rw [World.size_alloc] at q0
  have RC := Aside0.mk (reads71_nil ((w.alloc (.cells #[.pointer none] 53)).alloc (.cells #[.int .u32 0, .int .u32 0, .bool false] 88)) 72 #[.pointer (some ⟨w.heap.size, 0, none⟩)])
  have HB0 := Aside0.mk hb
  have Q := Aside0.mk (fun (W : World) (hW : Below ((w.alloc (.cells #[.pointer none] 53)).alloc (.cells #[.int .u32 0, .int .u32 0, .bool false] 88)).heap.size ((w.alloc (.cells #[.pointer none] 53)).alloc (.cells #[.int .u32 0, .int .u32 0, .bool false] 88)) W) => (hW.block _ (blk_lt q0)).trans q0)
  clear hb hb0 q0
  go_enter Try.func54, Try.ntmps54
  go_wp2_with (first
    | (go_at_call 71; refine RC.out.mono ?_; rintro e1 w1 ⟨rfl, hb⟩; have q2 := Q.out w1 hb; have Q2 := Aside0.mk q2; have y0 := (blk_cell q2 0).trans rfl; have y1 := (blk_cell q2 1).trans rfl; have y2 := (blk_cell q2 2).trans rfl; have f0 := blk_frozen q2 0; have f1 := blk_frozen q2 1; have f2 := blk_frozen q2 2; clear q2; have HB := Aside0.mk hb; clear hb)
    | fail)
  have P := blk_put3 Q2.out (.int .u32 0) (.int .u32 0) (.bool false)
  have k0 := blk_cell P 0
  have k1 := blk_cell P 1
  have k2 := blk_cell P 2
  simp at k0 k1 k2
  refine bodyPost_ret (v := .agg #[.int .u32 0, .int .u32 0, .bool false]) (by simp [results, Try.results54, go_sem, k0, k1, k2]) rfl ?_
  exact ⟨rfl, bset (bset (bset (below_then HB0.out (by rw [World.size_alloc, World.size_alloc]; omega) HB.out) (by omega) _ _) (by omega) _ _) (by omega) _ _⟩
theorem Table1_calls (h : Cur w g A c l a 0) (bc : Nat) (hbc : bc ≠ g) (cb : w.heap[bc]? = some (.cells #[.pointer (some ⟨g, 0, none⟩)] 53 (0, 0))) :
    Calls Try.prog 80 #[.pointer (some ⟨bc, 0, none⟩)] w (Did w g A c l (limV (tableB l a).1) (tableB l a).2.1 (tableB l a).2.2) := Table1_pre h bc hbc cb fun W a1 e1 hC => Limits_calls hC
set_option maxRecDepth 100000 in
set_option maxHeartbeats 1000000 in
theorem Table_calls (h : Cur w g A c l a e) : Calls Try.prog 58 #[.pointer (some ⟨g, 0, none⟩)] w (Did w g A c l (limV (tableM l a e).1) (tableM l a e).2.1 (tableM l a e).2.2) := by
  have hb0 := below_alloc (Below.refl w.heap.size w) (.cells #[.pointer (some ⟨g, 0, none⟩)] 53)
  have hb := hb0.alloc hb0.size (.cells #[.int .u32 0, .int .u32 0, .bool false] 88)
  have h1 := h.below hb
  have GB := Aside0.mk (grown_of_below hb (some g))
  have cb := (heap_alloc_old (.cells #[.int .u32 0, .int .u32 0, .bool false] 88) (blk_lt (heap_alloc_new w (.cells #[.pointer (some ⟨g, 0, none⟩)] 53)))).trans (heap_alloc_new w (.cells #[.pointer (some ⟨g, 0, none⟩)] 53))
  have q0 := heap_alloc_new (w.alloc (.cells #[.pointer (some ⟨g, 0, none⟩)] 53)) (.cells #[.int .u32 0, .int .u32 0, .bool false] 88)
  rw [World.size_alloc] at q0
  have hne : w.heap.size ≠ g := by have := h.lt; omega
  have hne1 : w.heap.size + 1 ≠ g := by have := h.lt; omega
  have H := Aside0.mk h
  have Q := Aside0.mk (fun (W : World) (hW : ((w.alloc (.cells #[.pointer (some ⟨g, 0, none⟩)] 53)).alloc (.cells #[.int .u32 0, .int .u32 0, .bool false] 88)).grownBy W (some g)) => cap_keep q0 hne1 hW)
  have RC : Calls Try.prog 71 #[.pointer (some ⟨g, 0, none⟩), .func (.func 80) #[] #[.pointer (some ⟨w.heap.size, 0, none⟩)]] ((w.alloc (.cells #[.pointer (some ⟨g, 0, none⟩)] 53)).alloc (.cells #[.int .u32 0, .int .u32 0, .bool false] 88)) (Did ((w.alloc (.cells #[.pointer (some ⟨g, 0, none⟩)] 53)).alloc (.cells #[.int .u32 0, .int .u32 0, .bool false] 88)) g A c l (limV (tableM l a e).1) (tableM l a e).2.1 (tableM l a e).2.2) := by
    by_cases he : e = 0
    · subst he
      have e1 : tableM l a 0 = rM (0, 0, false) (tableB l a) a := by unfold tableM readsM; rw [if_pos rfl]
      rw [e1]
      have hb2 := below_alloc (Below.refl _ ((w.alloc (.cells #[.pointer (some ⟨g, 0, none⟩)] 53)).alloc (.cells #[.int .u32 0, .int .u32 0, .bool false] 88))) (.cells #[.int .u32 0, .int .u32 0, .bool false] 88)
      exact reads71_any h1 80 #[.pointer (some ⟨w.heap.size, 0, none⟩)] (fun w => by go_simp) (tableB l a) (Table1_calls (h1.below hb2) _ hne ((hb2.block _ (blk_lt cb)).trans cb))
    · have e1 : tableM l a e = ((0, 0, false), a, e) := by unfold tableM readsM; rw [if_neg he]
      rw [e1]
      exact reads71_off h1 he 80 #[.pointer (some ⟨w.heap.size, 0, none⟩)]
  replace RC := Aside0.mk RC
  obtain ⟨r, hr⟩ : ∃ r, r = tableM l a e := ⟨_, rfl⟩
  rw [← hr] at RC ⊢
  obtain ⟨⟨v1, v2, v3⟩, a1, e1⟩ := r
  simp only [limV] at RC ⊢
  clear h h1 hb hb0 cb q0 hr hne hne1
  go_enter Try.func58, Try.ntmps58
  go_wp2_with (first
    | (go_at_call 71; refine RC.out.mono ?_; rintro e1 w1 ⟨rfl, hg, hc⟩; have q2 := Q.out w1 hg; have Q2 := Aside0.mk q2; have y0 := (blk_cell q2 0).trans rfl; have y1 := (blk_cell q2 1).trans rfl; have y2 := (blk_cell q2 2).trans rfl; have f0 := blk_frozen q2 0; have f1 := blk_frozen q2 1; have f2 := blk_frozen q2 2; clear q2; have HG := Aside0.mk hg; have HC := Aside0.mk hc; clear hg hc)
    | fail)
  have P := blk_put3 Q2.out (.int .u32 v1) (.int .u32 v2) (.bool v3)
  have k0 := blk_cell P 0
  have k1 := blk_cell P 1
  have k2 := blk_cell P 2
  simp at k0 k1 k2
  refine bodyPost_ret (v := .agg #[.int .u32 v1, .int .u32 v2, .bool v3]) (by simp [results, Try.results58, go_sem, k0, k1, k2]) rfl ?_
  have R := H.out.off (show w.heap.size ≤ w.heap.size + 1 by omega) (grown_then GB.out HG.out) HC.out (grown_set3 _ (w.heap.size + 1) (.int .u32 v1) (.int .u32 v2) (.bool v3))
  exact ⟨rfl, R.1, R.2⟩
set_option maxRecDepth 100000 in
theorem Table_nil (w : World) : Calls Try.prog 58 #[.pointer none] w fun en w' => en = .returned (limV (0, 0, false)) ∧ Below w.heap.size w w' := by
  have hb0 := below_alloc (Below.refl w.heap.size w) (.cells #[.pointer none] 53)
  have hb := hb0.alloc hb0.size (.cells #[.int .u32 0, .int .u32 0, .bool false] 88)
  have q0 := heap_alloc_new (w.alloc (.cells #[.pointer none] 53)) (.cells #[.int .u32 0, .int .u32 0, .bool false] 88)
  rw [World.size_alloc] at q0
  have RC := Aside0.mk (reads71_nil ((w.alloc (.cells #[.pointer none] 53)).alloc (.cells #[.int .u32 0, .int .u32 0, .bool false] 88)) 80 #[.pointer (some ⟨w.heap.size, 0, none⟩)])
  have HB0 := Aside0.mk hb
  have Q := Aside0.mk (fun (W : World) (hW : Below ((w.alloc (.cells #[.pointer none] 53)).alloc (.cells #[.int .u32 0, .int .u32 0, .bool false] 88)).heap.size ((w.alloc (.cells #[.pointer none] 53)).alloc (.cells #[.int .u32 0, .int .u32 0, .bool false] 88)) W) => (hW.block _ (blk_lt q0)).trans q0)
  clear hb hb0 q0
  go_enter Try.func58, Try.ntmps58
  go_wp2_with (first
    | (go_at_call 71; refine RC.out.mono ?_; rintro e1 w1 ⟨rfl, hb⟩; have q2 := Q.out w1 hb; have Q2 := Aside0.mk q2; have y0 := (blk_cell q2 0).trans rfl; have y1 := (blk_cell q2 1).trans rfl; have y2 := (blk_cell q2 2).trans rfl; have f0 := blk_frozen q2 0; have f1 := blk_frozen q2 1; have f2 := blk_frozen q2 2; clear q2; have HB := Aside0.mk hb; clear hb)
    | fail)
  have P := blk_put3 Q2.out (.int .u32 0) (.int .u32 0) (.bool false)
  have k0 := blk_cell P 0
  have k1 := blk_cell P 1
  have k2 := blk_cell P 2
  simp at k0 k1 k2
  refine bodyPost_ret (v := .agg #[.int .u32 0, .int .u32 0, .bool false]) (by simp [results, Try.results58, go_sem, k0, k1, k2]) rfl ?_
  exact ⟨rfl, bset (bset (bset (below_then HB0.out (by rw [World.size_alloc, World.size_alloc]; omega) HB.out) (by omega) _ _) (by omega) _ _) (by omega) _ _⟩
set_option maxRecDepth 100000 in
set_option maxHeartbeats 1000000 in
theorem Global_calls (h : Cur w g A c l a e) : Calls Try.prog 56 #[.pointer (some ⟨g, 0, none⟩)] w (Did w g A c l (gloV (globalM l a e).1) (globalM l a e).2.1 (globalM l a e).2.2) := by
  have hb0 := below_alloc (Below.refl w.heap.size w) (.cells #[.pointer (some ⟨g, 0, none⟩)] 53)
  have hb := hb0.alloc hb0.size (.cells #[.int .u8 0, .bool false] 93)
  have h1 := h.below hb
  have GB := Aside0.mk (grown_of_below hb (some g))
  have cb := (heap_alloc_old (.cells #[.int .u8 0, .bool false] 93) (blk_lt (heap_alloc_new w (.cells #[.pointer (some ⟨g, 0, none⟩)] 53)))).trans (heap_alloc_new w (.cells #[.pointer (some ⟨g, 0, none⟩)] 53))
  have q0 := heap_alloc_new (w.alloc (.cells #[.pointer (some ⟨g, 0, none⟩)] 53)) (.cells #[.int .u8 0, .bool false] 93)
  rw [World.size_alloc] at q0
  have hne : w.heap.size ≠ g := by have := h.lt; omega
  have hne1 : w.heap.size + 1 ≠ g := by have := h.lt; omega
  have H := Aside0.mk h
  have Q := Aside0.mk (fun (W : World) (hW : ((w.alloc (.cells #[.pointer (some ⟨g, 0, none⟩)] 53)).alloc (.cells #[.int .u8 0, .bool false] 93)).grownBy W (some g)) => cap_keep q0 hne1 hW)
  have RC : Calls Try.prog 77 #[.pointer (some ⟨g, 0, none⟩), .func (.func 78) #[] #[.pointer (some ⟨w.heap.size, 0, none⟩)]] ((w.alloc (.cells #[.pointer (some ⟨g, 0, none⟩)] 53)).alloc (.cells #[.int .u8 0, .bool false] 93)) (Did ((w.alloc (.cells #[.pointer (some ⟨g, 0, none⟩)] 53)).alloc (.cells #[.int .u8 0, .bool false] 93)) g A c l (gloV (globalM l a e).1) (globalM l a e).2.1 (globalM l a e).2.2) := by
    by_cases he : e = 0
    · subst he
      have e1 : globalM l a 0 = rM (0, false) (globalB l a) a := by unfold globalM readsM; rw [if_pos rfl]
      rw [e1]
      have hb2 := below_alloc (Below.refl _ ((w.alloc (.cells #[.pointer (some ⟨g, 0, none⟩)] 53)).alloc (.cells #[.int .u8 0, .bool false] 93))) (.cells #[.int .u8 0, .bool false] 93)
      exact reads77_any h1 78 #[.pointer (some ⟨w.heap.size, 0, none⟩)] (fun w => by go_simp) (globalB l a) (Global1_calls (h1.below hb2) _ hne ((hb2.block _ (blk_lt cb)).trans cb))
    · have e1 : globalM l a e = ((0, false), a, e) := by unfold globalM readsM; rw [if_neg he]
      rw [e1]
      exact reads77_off h1 he 78 #[.pointer (some ⟨w.heap.size, 0, none⟩)]
  replace RC := Aside0.mk RC
  obtain ⟨r, hr⟩ : ∃ r, r = globalM l a e := ⟨_, rfl⟩
  rw [← hr] at RC ⊢
  obtain ⟨⟨v1, v2⟩, a1, e1⟩ := r
  simp only [gloV] at RC ⊢
  clear h h1 hb hb0 cb q0 hr hne hne1
  go_enter Try.func56, Try.ntmps56
  go_wp2_with (first
    | (go_at_call 77; refine RC.out.mono ?_; rintro e1 w1 ⟨rfl, hg, hc⟩; have q2 := Q.out w1 hg; have Q2 := Aside0.mk q2; have y0 := (blk_cell q2 0).trans rfl; have y1 := (blk_cell q2 1).trans rfl; have f0 := blk_frozen q2 0; have f1 := blk_frozen q2 1; clear q2; have HG := Aside0.mk hg; have HC := Aside0.mk hc; clear hg hc)
    | fail)
  have P := blk_put2 Q2.out (.int .u8 v1) (.bool v2)
  have k0 := blk_cell P 0
  have k1 := blk_cell P 1
  simp at k0 k1
  refine bodyPost_ret (v := .agg #[.int .u8 v1, .bool v2]) (by simp [results, Try.results56, go_sem, k0, k1]) rfl ?_
  have R := H.out.off (show w.heap.size ≤ w.heap.size + 1 by omega) (grown_then GB.out HG.out) HC.out (grown_set2 _ (w.heap.size + 1) (.int .u8 v1) (.bool v2))
  exact ⟨rfl, R.1, R.2⟩
set_option maxRecDepth 100000 in
theorem Global_nil (w : World) : Calls Try.prog 56 #[.pointer none] w fun en w' => en = .returned (gloV (0, false)) ∧ Below w.heap.size w w' := by
  have hb0 := below_alloc (Below.refl w.heap.size w) (.cells #[.pointer none] 53)
  have hb := hb0.alloc hb0.size (.cells #[.int .u8 0, .bool false] 93)
  have q0 := heap_alloc_new (w.alloc (.cells #[.pointer none] 53)) (.cells #[.int .u8 0, .bool false] 93)
  rw [World.size_alloc] at q0
  have RC := Aside0.mk (reads77_nil ((w.alloc (.cells #[.pointer none] 53)).alloc (.cells #[.int .u8 0, .bool false] 93)) 78 #[.pointer (some ⟨w.heap.size, 0, none⟩)])
  have HB0 := Aside0.mk hb
  have Q := Aside0.mk (fun (W : World) (hW : Below ((w.alloc (.cells #[.pointer none] 53)).alloc (.cells #[.int .u8 0, .bool false] 93)).heap.size ((w.alloc (.cells #[.pointer none] 53)).alloc (.cells #[.int .u8 0, .bool false] 93)) W) => (hW.block _ (blk_lt q0)).trans q0)
  clear hb hb0 q0
  go_enter Try.func56, Try.ntmps56
  go_wp2_with (first
    | (go_at_call 77; refine RC.out.mono ?_; rintro e1 w1 ⟨rfl, hb⟩; have q2 := Q.out w1 hb; have Q2 := Aside0.mk q2; have y0 := (blk_cell q2 0).trans rfl; have y1 := (blk_cell q2 1).trans rfl; have f0 := blk_frozen q2 0; have f1 := blk_frozen q2 1; clear q2; have HB := Aside0.mk hb; clear hb)
    | fail)
  have P := blk_put2 Q2.out (.int .u8 0) (.bool false)
  have k0 := blk_cell P 0
  have k1 := blk_cell P 1
  simp at k0 k1
  refine bodyPost_ret (v := .agg #[.int .u8 0, .bool false]) (by simp [results, Try.results56, go_sem, k0, k1]) rfl ?_
  exact ⟨rfl, bset (bset (below_then HB0.out (by rw [World.size_alloc, World.size_alloc]; omega) HB.out) (by omega) _ _) (by omega) _ _⟩
end
end Go.Proofs.Ytjhdnlgbboboiaa.Scan

/- The walk of list, of New. -/
namespace Go.Proofs.Ytjhdnlgbboboiaa.Scan
open Go.Proofs.Ytjhdnlgbboboiaa.Leb Go.Proofs.Ytjhdnlgbboboiaa.Mem Go.RowKit Go.Proofs.YtjhdnlgbboboiaaW.PrintWords Go.Proofs.YtjhdnlgbboboiaaW.PrintLast Go.Proofs.YtjhdnlgbboboiaaW.PrintMore Go.Proofs.Ytjhdnlgbboboiaa.Base
set_option linter.unusedVariables false
set_option linter.unusedSimpArgs false
def listL (l : List Int) : Nat → List Int → Int → Int → List Int × Int × Int
  | 0, out, a, e => (out, a, e)
  | k + 1, out, a, e => if e = 0 then listL l k (out ++ [(valueM l a e).1]) (valueM l a e).2.1 (valueM l a e).2.2 else (out, a, e)
def listM (l : List Int) (a e : Int) : List Int × Int × Int := listL l (countM l a e).1.toNat [] (countM l a e).2.1 (countM l a e).2.2
theorem listL_off (l : List Int) (k : Nat) (out : List Int) (a e : Int) (he : e ≠ 0) : listL l k out a e = (out, a, e) := by
  cases k with
  | zero => rfl
  | succ k => unfold listL; rw [if_neg he]
theorem countM_range (l : List Int) (a e : Int) : 0 ≤ (countM l a e).1 ∧ (countM l a e).1 ≤ 4096 := by
  have hu := u32M_range l a 0
  unfold countM readsM
  by_cases he : e = 0
  · rw [if_pos he]
    unfold rM
    by_cases hc : (countB l a).2.2 = 0
    · rw [if_pos hc]
      unfold countB at hc ⊢
      simp only at hc ⊢
      by_cases h4 : (u32M l a 0).1 > 4096
      · rw [if_pos h4] at hc
        exfalso
        unfold fl at hc
        by_cases h5 : (u32M l a 0).2.2 = 0
        · rw [if_pos h5] at hc; cases hc
        · rw [if_neg h5] at hc; exact h5 hc
      · omega
    · rw [if_neg hc]; simp
  · rw [if_neg he]; simp
section
variable {w w2 W W' : World} {g c : Nat} {A : Option Addr} {l : List Int} {a e a1 e1 : Int}
theorem raw_one (W : World) (b : Nat) (x : Int) (T : TypeId) (h : W.heap[b]? = some (.cells #[.int .u8 x] T (0, 0))) : RawSrc W 1 (some ⟨b, 0, none⟩) 1 [.int .u8 x] :=
  ⟨rfl, fun u hu => by simp at hu; subst hu; rfl, (fun h => by cases h), (fun ad e j u hu => by
    have e2 := Option.some.inj e
    subst e2
    cases j with
    | zero => simp at hu; subst hu; exact (blk_cell h 0).trans rfl
    | succ j => simp at hu)⟩
/-- Bytes appended, and what else is kept. -/
theorem list_step {w w1 w3 : World} {out v1 : Value} {xs : List Int} {x : Int} {a1 e1 : Int} (ho : ∀ b, out.ownBlock = some b → w.heap.size ≤ b) (H0 : Cur w g A c l a e) (hg : w.grownBy w1 (some g)) (hc : Cur w1 g A c l a1 e1)
    {i : Nat} (hi : xs.length = i) (h1 : Loose w3 5 1 v1 (i + 1) (encs (Value.int .u8) xs ++ [.int .u8 x])) (h2 : w1.grownBy w3 out.ownBlock) (h3 : v1.ownBlock = out.ownBlock ∨ ∃ b, v1.ownBlock = some b ∧ w1.heap.size ≤ b) :
    ∃ Ao co, v1 = .slice Ao (i + 1) co ∧ (∀ b, v1.ownBlock = some b → w.heap.size ≤ b) ∧ Loose w3 5 1 v1 (i + 1) (encs (Value.int .u8) (xs ++ [x])) ∧ w.grownBy w3 (some g) ∧ Cur w3 g A c l a1 e1 := by
  have h4 : Loose w3 5 1 v1 (i + 1) (encs (Value.int .u8) (xs ++ [x])) := by
    rw [show encs (Value.int .u8) (xs ++ [x]) = encs (Value.int .u8) xs ++ [.int .u8 x] from by simp [encs]]
    exact h1
  obtain ⟨Ao, co, ev, _⟩ := Loose.C (h1 := fun _ => rfl) (show Loose w3 5 1 v1 (xs ++ [x]).length (encs (Value.int .u8) (xs ++ [x])) by rw [List.length_append, hi]; exact h4)
  refine ⟨Ao, co, by rw [ev, List.length_append, hi]; rfl, fun b hb => ?_, h4, ?_⟩
  · rcases h3 with h | ⟨b', h, hle⟩
    · exact ho b (by rw [← h]; exact hb)
    · rw [h] at hb
      injection hb with hb
      have := hg.size
      omega
  · cases hb : out.ownBlock with
    | none =>
      rw [hb] at h2
      have G := grown_none h2 (some w1.heap.size)
      exact H0.off hg.size hg hc G
    | some t =>
      rw [hb] at h2
      exact H0.off (ho t hb) hg hc h2
set_option maxRecDepth 100000 in
set_option maxHeartbeats 2000000 in
theorem list_calls (h : Cur w g A c l a e) : Calls Try.prog 69 #[.pointer (some ⟨g, 0, none⟩), .func (.func 70) #[.pointer (some ⟨g, 0, none⟩)] #[]] w (DidP w g A c l (BytesP w.heap.size (listM l a e).1) (listM l a e).2.1 (listM l a e).2.2) := by
  have hu := Try.underlying22
  have CC := Aside0.mk (Count_calls h)
  have CR := countM_range l a e
  unfold listM
  obtain ⟨u, hu_⟩ : ∃ u, u = countM l a e := ⟨_, rfl⟩
  rw [← hu_] at CC CR ⊢
  obtain ⟨n, ca, ce⟩ := u
  simp only at CC CR ⊢
  obtain ⟨N, rfl⟩ := Int.eq_ofNat_of_zero_le CR.1
  rw [show ((N : Int)).toNat = N from rfl]
  obtain ⟨r, hr⟩ : ∃ r, r = listL l N [] ca ce := ⟨_, rfl⟩
  rw [← hr]
  have HR := Aside0.mk hr
  have H0 := Aside0.mk h
  have CR4 := Aside0.mk (show N ≤ 4096 by omega)
  have hN : (N : Int) ≤ 4096 := CR.2
  clear h CR hu_ hr
  go_enter Try.func69, Try.ntmps69
  go_wp2_with (first
    | (go_at_call 93; refine CC.out.mono ?_; rintro e1 w1 ⟨rfl, hg, hc⟩; have HG := Aside0.mk hg; have HC := Aside0.mk hc; clear hg hc)
    | fail)
  go_loopg [5, 7] N (fun d v5 v7 w' => ∃ (i : Nat) (xs : List Int) (a1 e1 : Int) (Ao : Option Addr) (co : Nat), v5 = .slice Ao i co ∧ v7 = .int .i64 (i : Int) ∧ Aside0 (i + d = N ∧ xs.length = i) ∧ Aside0 (∀ b, (Value.slice Ao i co).ownBlock = some b → w.heap.size ≤ b) ∧ Aside0 (Loose w' 5 1 (.slice Ao i co) i (encs (Value.int .u8) xs)) ∧ Aside0 (w.grownBy w' (some g)) ∧ Aside0 (Cur w' g A c l a1 e1) ∧ Aside0 (r = listL l d xs a1 e1))
  case atStart => exact ⟨0, [], ca, ce, none, 0, rfl, rfl, ⟨by omega, rfl⟩, ⟨fun b hb => by cases hb⟩, ⟨Loose.nil _ _ _⟩, HG, HC, HR⟩
  case round =>
    obtain ⟨i, xs, a1, e1, Ao, co, rfl, rfl, HD, HO, HL, HGW, HCW, HRR⟩ := hrel
    have hd := HD.out
    cases gk with
    | zero =>
      have e2 : decide (i < N) = false := decide_eq_false (by omega)
      have e3 : decide ((i : Int) < (N : Int)) = false := decide_eq_false (by omega)
      have hR := HRR.out
      unfold listL at hR
      have HR2 := Aside0.mk hR
      clear hR hd
      go_wp2
      go_ret
      refine ⟨_, rfl, ?_, HGW.out, by rw [HR2.out]; exact HCW.out⟩
      rw [HR2.out]
      exact loose_bytes (by rw [HD.out.2]; exact HL.out) HO.out
    | succ d =>
      have hi : i < N := by omega
      have hiI : (i : Int) < (N : Int) := by omega
      have e2 : decide ((i : Int) < (N : Int)) = true := decide_eq_true hiI
      have GC := Aside0.mk (good_calls HCW.out)
      by_cases he : e1 = 0
      · subst he
        have hR := HRR.out
        unfold listL at hR
        rw [if_pos rfl] at hR
        have VC := Aside0.mk (Value_calls HCW.out)
        obtain ⟨x, hx⟩ : ∃ x, x = valueM l a1 0 := ⟨_, rfl⟩
        rw [← hx] at hR VC
        obtain ⟨x, xa, xe⟩ := x
        simp only at hR VC
        have HR2 := Aside0.mk hR
        have LI := Aside0.mk (show (i + 1) * 1 ≤ 140737488355328 by have := CR4.out; omega)
        clear hR hd hx
        rw [show ((0 : Int) == 0) = true from rfl] at GC
        go_wp2_with (first
          | (go_at_call 97; refine GC.out.mono ?_; rintro e3 w3 ⟨rfl, rfl⟩)
          | (refine VC.out.mono ?_; rintro e3 w4 ⟨rfl, hg, hc⟩
             have hb4 := below_alloc (Below.refl w4.heap.size w4) (.cells #[.int .u8 x] 5)
             have HG4 := Aside0.mk (grown_then (grown_then HGW.out hg) (grown_of_below hb4 (some g)))
             have HC4 := Aside0.mk (hc.below hb4)
             have HL4 := Aside0.mk ((HL.out.move (fun k hk => hg.block k (HL.out.lt k hk) (fun e => by have := Option.some.inj e; have := HO.out k hk; have := H0.out.lt; omega))).move (fun k hk => hb4.block k (Nat.lt_of_lt_of_le (HL.out.lt k hk) hg.size)))
             have RW := Aside0.mk (raw_one _ _ x 5 (heap_alloc_new w4 (.cells #[.int .u8 x] 5)))
             clear hg hc hb4)
          | (at_builtin
             refine loose_append rfl (.tmp 21) (.tmp 24) 22 5 (.int .u8 0) 1 1 rfl Try.underlying22 info5 rfl (by decide) (by decide) (.slice Ao i co) i (encs (Value.int .u8) xs) (some ⟨w4.heap.size, 0, none⟩) 1 1 [.int .u8 x] (by simp [Act.eval, Act.put]) (by simp [Act.eval, Act.put]) HL4.out RW.out LI.out ?_
             intro v1 w5 h1 h2 h3
             have LS := Aside0.mk (list_step HO.out H0.out HG4.out HC4.out HD.out.2 h1 h2 h3)
             clear h1 h2 h3)
          | fail)
        go_roundg d
        case measure => omega
        case rel =>
          obtain ⟨Ao', co', ev, ho, hl, hg, hc⟩ := LS.out
          exact ⟨i + 1, xs ++ [x], xa, xe, Ao', co', ev, by push_cast; rfl, ⟨by have := HD.out; omega, by rw [List.length_append, HD.out.2]; rfl⟩, ⟨by rw [← ev]; exact ho⟩, ⟨by rw [← ev]; exact hl⟩, ⟨hg⟩, ⟨hc⟩, HR2⟩
      · have hR := HRR.out
        rw [listL_off _ _ _ _ _ he] at hR
        have HR2 := Aside0.mk hR
        rw [show (e1 == 0) = false from beq_eq_false_iff_ne.2 he] at GC
        clear hR hd he
        go_wp2_with (first
          | (go_at_call 97; refine GC.out.mono ?_; rintro e3 w3 ⟨rfl, rfl⟩)
          | fail)
        go_ret
        refine ⟨_, rfl, ?_, HGW.out, by rw [HR2.out]; exact HCW.out⟩
        rw [HR2.out]
        exact loose_bytes (by rw [HD.out.2]; exact HL.out) HO.out
end
end Go.Proofs.Ytjhdnlgbboboiaa.Scan

/- The walks of Func, of New. -/
namespace Go.Proofs.Ytjhdnlgbboboiaa.Scan
open Go.Proofs.Ytjhdnlgbboboiaa.Leb Go.Proofs.Ytjhdnlgbboboiaa.Mem Go.RowKit Go.Proofs.YtjhdnlgbboboiaaW.PrintWords Go.Proofs.YtjhdnlgbboboiaaW.PrintLast Go.Proofs.YtjhdnlgbboboiaaW.PrintMore Go.Proofs.Ytjhdnlgbboboiaa.Base
set_option linter.unusedVariables false
set_option linter.unusedSimpArgs false
def funcB (l : List Int) (a : Int) : (List Int × List Int) × Int × Int :=
  let x := amongM 107 [96] l a 0
  let p := listM l x.2.1 x.2.2
  let q := listM l p.2.1 p.2.2
  ((p.1, q.1), q.2)
def funcM (l : List Int) (a e : Int) : (List Int × List Int) × Int × Int := readsM ([], []) (funcB l a) a e
theorem FuncP.nil (lo : Nat) (w' : World) : FuncP lo [] [] (.agg #[.slice none 0 0, .slice none 0 0]) w' := ⟨none, 0, none, 0, rfl, ⟨Nat.le_refl _, Nat.le_refl _⟩, fun W' _ => Kd.C_nil _ W', fun W' _ => Kd.C_nil _ W'⟩
theorem FuncP.low {lo lo' : Nat} {ps qs : List Int} {r : Value} {w' : World} (h : FuncP lo ps qs r w') (hl : lo' ≤ lo) : FuncP lo' ps qs r w' := by
  obtain ⟨A1, c1, A2, c2, e, hc, h1, h2⟩ := h
  exact ⟨A1, c1, A2, c2, e, hc, Kd.F_mono h1 fun k hk => ⟨by omega, hk.2⟩, Kd.F_mono h2 fun k hk => ⟨by omega, hk.2⟩⟩
/-- New bytes, where a block has changed that is elder. -/
theorem new_keep {lo t : Nat} {A' : Option Addr} {n : Nat} {xs : List Int} {w w' : World} (h : Kd.F ku w (fun k => lo ≤ k ∧ k < w.heap.size) A' n xs) (hg : w.grownBy w' (some t)) (ht : t < lo) : Kd.F ku w' (fun k => lo ≤ k ∧ k < w'.heap.size) A' n xs :=
  Kd.F_mono (Kd.F_step h fun k hk hlt => hg.block k hlt (fun e => by have := Option.some.inj e; omega)) fun k hk => ⟨hk.1, Nat.lt_of_lt_of_le hk.2 hg.size⟩
section
variable {w w2 W W' : World} {g c : Nat} {A : Option Addr} {l : List Int} {a e a1 e1 : Int}
theorem reads66_any (h : Cur w g A c l a 0) (K : Nat) (caps : Array Value) (hcf : ∀ w : World, Sem.run Try.prog (callFunc K caps) w = .ok (.enter K caps) w) (r : (List Int × List Int) × Int × Int)
    (hK : Calls Try.prog K caps (w.alloc (.cells #[.slice none 0 0, .slice none 0 0] 84)) (DidP (w.alloc (.cells #[.slice none 0 0, .slice none 0 0] 84)) g A c l (FuncP (w.heap.size + 1) r.1.1 r.1.2) r.2.1 r.2.2)) :
    Calls Try.prog 66 #[.pointer (some ⟨g, 0, none⟩), .func (.func K) #[] caps] w (DidP w g A c l (FuncP (w.heap.size + 1) (rM ([], []) r a).1.1 (rM ([], []) r a).1.2) (rM ([], []) r a).2.1 (rM ([], []) r a).2.2) := by
  obtain ⟨⟨v1, v2⟩, a1, e1⟩ := r
  unfold rM
  by_cases he : e1 = 0
  · subst he
    simp only [if_true]
    exact reads66_ok h K caps hcf v1 v2 a1 hK
  · simp only [if_neg he]
    refine (reads66_bad h K caps hcf v1 v2 a1 e1 he hK).mono ?_
    rintro en w' ⟨rfl, hg, hc⟩
    exact ⟨_, rfl, FuncP.nil _ _, hg, hc⟩
set_option maxRecDepth 100000 in
set_option maxHeartbeats 2000000 in
theorem Func1_calls (h : Cur w g A c l a 0) (bc : Nat) (hbc : bc ≠ g) (cb : w.heap[bc]? = some (.cells #[.pointer (some ⟨g, 0, none⟩)] 53 (0, 0))) :
    Calls Try.prog 67 #[.pointer (some ⟨bc, 0, none⟩)] w (DidP w g A c l (FuncP w.heap.size (funcB l a).1.1 (funcB l a).1.2) (funcB l a).2.1 (funcB l a).2.2) := by
  have hu := Try.underlying22
  have hb := below_alloc (Below.refl w.heap.size w) (.cells #[.slice none 0 0, .slice none 0 0] 84)
  have h1 := h.below hb
  have AC := among_laid h1 107 (by decide) [96] (by decide) 5
  rw [World.size_alloc] at AC
  replace AC := Aside0.mk AC
  have GB := Aside0.mk (grown_of_below hb (some g))
  have q0 := heap_alloc_new w (.cells #[.slice none 0 0, .slice none 0 0] 84)
  have Q := Aside0.mk (fun (W : World) (hW : (w.alloc (.cells #[.slice none 0 0, .slice none 0 0] 84)).grownBy W (some g)) => (And.intro (cap_keep q0 (by have := h.lt; omega) hW) (cap_keep ((hb.block bc (blk_lt cb)).trans cb) hbc hW)))
  have H := Aside0.mk h
  unfold funcB
  obtain ⟨u, hu_⟩ : ∃ u, u = amongM 107 [96] l a 0 := ⟨_, rfl⟩
  rw [← hu_] at AC ⊢
  obtain ⟨b, ba, be⟩ := u
  simp only at AC ⊢
  have LC := Aside0.mk (fun W (hC : Cur W g A c l ba be) => list_calls hC)
  obtain ⟨p, hp⟩ : ∃ p, p = listM l ba be := ⟨_, rfl⟩
  rw [← hp] at LC ⊢
  obtain ⟨ps, pa, pe⟩ := p
  simp only at LC ⊢
  have MC := Aside0.mk (fun W (hC : Cur W g A c l pa pe) => list_calls hC)
  obtain ⟨q, hq⟩ : ∃ q, q = listM l pa pe := ⟨_, rfl⟩
  rw [← hq] at MC ⊢
  obtain ⟨qs, qa, qe⟩ := q
  simp only at MC ⊢
  have cb0 : (w.alloc (.cells #[.slice none 0 0, .slice none 0 0] 84)).cell? ⟨bc, 0, none⟩ = some (.pointer (some ⟨g, 0, none⟩)) := (blk_cell ((hb.block bc (blk_lt cb)).trans cb) 0).trans rfl
  clear h h1 hb q0 hu_ hp hq cb hbc
  go_enter Try.func67, Try.ntmps67
  go_wp2_with (first
    | (go_at_call 69; refine MC2.out.mono ?_; rintro e1 w3 ⟨r2, rfl, ⟨A2, c2, rfl, hc2, hf2⟩, hg, hc⟩
       have LT := H.out.lt
       have SZ := Aside0.mk (show w.heap.size < w2.heap.size from Nat.lt_of_lt_of_le SZ1.out HS12.out)
       have HF2 := Aside0.mk (And.intro hc2 hf2)
       have HF1b := Aside0.mk (new_keep HF1.out.2 hg (by have := SZ1.out; omega))
       have hg3 := grown_then HG2.out hg
       have q3 := (Q.out w3 hg3).1
       have Q3 := Aside0.mk q3
       have y0 := (blk_cell q3 0).trans rfl
       have y1 := (blk_cell q3 1).trans rfl
       have f0 := blk_frozen q3 0
       have f1 := blk_frozen q3 1
       have HG3 := Aside0.mk hg3
       have HC3 := Aside0.mk hc
       clear hg hc hf2 hc2 hg3 q3 LT cb1 cb2)
    | (go_at_call 69; refine LC2.out.mono ?_; rintro e1 w2 ⟨r1, rfl, ⟨A1, c1, rfl, hc1, hf1⟩, hg, hc⟩
       have HF1 := Aside0.mk (And.intro hc1 hf1)
       have hg2 := grown_then HG.out hg
       have HS12 := Aside0.mk hg.size
       have MC2 := Aside0.mk (MC.out w2 hc)
       have cb2 := (blk_cell (Q.out w2 hg2).2 0).trans rfl
       have HG2 := Aside0.mk hg2
       clear hg hc hf1 hc1 hg2)
    | (go_at_call 68; refine AC.out.mono ?_; rintro e1 w1 ⟨rfl, hg, hc⟩; have HG := Aside0.mk hg; have LC2 := Aside0.mk (LC.out w1 hc); have cb1 := (blk_cell (Q.out w1 hg).2 0).trans rfl; have SZ1 := Aside0.mk (show w.heap.size < w1.heap.size from Nat.lt_of_lt_of_le (by simp) hg.size); clear hg hc)
    | fail)
  have P := blk_put2 Q3.out (.slice A1 ps.length c1) (.slice A2 qs.length c2)
  have k0 := blk_cell P 0
  have k1 := blk_cell P 1
  simp at k0 k1
  refine bodyPost_ret (v := .agg #[.slice A1 ps.length c1, .slice A2 qs.length c2]) (by simp [results, Try.results67, go_sem, k0, k1]) rfl ?_
  have GS := grown_set2 w3 w.heap.size (.slice A1 ps.length c1) (.slice A2 qs.length c2)
  have R := H.out.off (Nat.le_refl _) (grown_then GB.out HG3.out) HC3.out GS
  refine ⟨_, rfl, ⟨A1, c1, A2, c2, rfl, ⟨HF1.out.1, HF2.out.1⟩, ?_, ?_⟩, R.1, R.2⟩
  · exact Kd.F_mono (new_keep HF1b.out GS SZ1.out) fun k hk => ⟨by have := SZ1.out; omega, hk.2⟩
  · exact Kd.F_mono (new_keep HF2.out.2 GS SZ.out) fun k hk => ⟨by have := SZ.out; omega, hk.2⟩
set_option maxRecDepth 100000 in
set_option maxHeartbeats 1000000 in
theorem Func_calls (h : Cur w g A c l a e) : Calls Try.prog 53 #[.pointer (some ⟨g, 0, none⟩)] w (DidP w g A c l (FuncP w.heap.size (funcM l a e).1.1 (funcM l a e).1.2) (funcM l a e).2.1 (funcM l a e).2.2) := by
  have hb0 := below_alloc (Below.refl w.heap.size w) (.cells #[.pointer (some ⟨g, 0, none⟩)] 53)
  have hb := hb0.alloc hb0.size (.cells #[.slice none 0 0, .slice none 0 0] 84)
  have h1 := h.below hb
  have GB := Aside0.mk (grown_of_below hb (some g))
  have cb := (heap_alloc_old (.cells #[.slice none 0 0, .slice none 0 0] 84) (blk_lt (heap_alloc_new w (.cells #[.pointer (some ⟨g, 0, none⟩)] 53)))).trans (heap_alloc_new w (.cells #[.pointer (some ⟨g, 0, none⟩)] 53))
  have q0 := heap_alloc_new (w.alloc (.cells #[.pointer (some ⟨g, 0, none⟩)] 53)) (.cells #[.slice none 0 0, .slice none 0 0] 84)
  rw [World.size_alloc] at q0
  have hne : w.heap.size ≠ g := by have := h.lt; omega
  have hne1 : w.heap.size + 1 ≠ g := by have := h.lt; omega
  have H := Aside0.mk h
  have Q := Aside0.mk (fun (W : World) (hW : ((w.alloc (.cells #[.pointer (some ⟨g, 0, none⟩)] 53)).alloc (.cells #[.slice none 0 0, .slice none 0 0] 84)).grownBy W (some g)) => cap_keep q0 hne1 hW)
  have RC : Calls Try.prog 66 #[.pointer (some ⟨g, 0, none⟩), .func (.func 67) #[] #[.pointer (some ⟨w.heap.size, 0, none⟩)]] ((w.alloc (.cells #[.pointer (some ⟨g, 0, none⟩)] 53)).alloc (.cells #[.slice none 0 0, .slice none 0 0] 84)) (DidP ((w.alloc (.cells #[.pointer (some ⟨g, 0, none⟩)] 53)).alloc (.cells #[.slice none 0 0, .slice none 0 0] 84)) g A c l (FuncP (w.heap.size + 2) (funcM l a e).1.1 (funcM l a e).1.2) (funcM l a e).2.1 (funcM l a e).2.2) := by
    have s2 : ((w.alloc (.cells #[.pointer (some ⟨g, 0, none⟩)] 53)).alloc (.cells #[.slice none 0 0, .slice none 0 0] 84)).heap.size = w.heap.size + 2 := by rw [World.size_alloc, World.size_alloc]
    by_cases he : e = 0
    · subst he
      have e1 : funcM l a 0 = rM ([], []) (funcB l a) a := by unfold funcM readsM; rw [if_pos rfl]
      rw [e1]
      have hb2 := below_alloc (Below.refl _ ((w.alloc (.cells #[.pointer (some ⟨g, 0, none⟩)] 53)).alloc (.cells #[.slice none 0 0, .slice none 0 0] 84))) (.cells #[.slice none 0 0, .slice none 0 0] 84)
      have F1 := Func1_calls (h1.below hb2) w.heap.size hne ((hb2.block _ (blk_lt cb)).trans cb)
      rw [World.size_alloc] at F1
      refine (reads66_any h1 67 #[.pointer (some ⟨w.heap.size, 0, none⟩)] (fun w => by go_simp) (funcB l a) F1).mono ?_
      rintro en w' ⟨r, rfl, hp, hg, hc⟩
      exact ⟨r, rfl, hp.low (by rw [s2]; omega), hg, hc⟩
    · have e1 : funcM l a e = (([], []), a, e) := by unfold funcM readsM; rw [if_neg he]
      rw [e1]
      refine (reads66_off h1 he 67 #[.pointer (some ⟨w.heap.size, 0, none⟩)]).mono ?_
      rintro en w' ⟨rfl, hg, hc⟩
      exact ⟨_, rfl, FuncP.nil _ _, hg, hc⟩
  replace RC := Aside0.mk RC
  obtain ⟨r, hr⟩ : ∃ r, r = funcM l a e := ⟨_, rfl⟩
  rw [← hr] at RC ⊢
  obtain ⟨⟨ps, qs⟩, a1, e1⟩ := r
  simp only at RC ⊢
  clear h h1 hb hb0 cb q0 hr hne hne1
  go_enter Try.func53, Try.ntmps53
  go_wp2_with (first
    | (go_at_call 66; refine RC.out.mono ?_; rintro e1 w1 ⟨r, rfl, ⟨A1, c1, A2, c2, rfl, hcc, hF1, hF2⟩, hg, hc⟩; have q2 := Q.out w1 hg; have Q2 := Aside0.mk q2; have y0 := (blk_cell q2 0).trans rfl; have y1 := (blk_cell q2 1).trans rfl; have f0 := blk_frozen q2 0; have f1 := blk_frozen q2 1; clear q2; have HG := Aside0.mk hg; have HC := Aside0.mk hc; have HF := Aside0.mk (And.intro hcc (And.intro hF1 hF2)); clear hg hc hcc hF1 hF2)
    | fail)
  have P := blk_put2 Q2.out (.slice A1 ps.length c1) (.slice A2 qs.length c2)
  have k0 := blk_cell P 0
  have k1 := blk_cell P 1
  simp at k0 k1
  refine bodyPost_ret (v := .agg #[.slice A1 ps.length c1, .slice A2 qs.length c2]) (by simp [results, Try.results53, go_sem, k0, k1]) rfl ?_
  have GS := grown_set2 w1 (w.heap.size + 1) (.slice A1 ps.length c1) (.slice A2 qs.length c2)
  have R := H.out.off (show w.heap.size ≤ w.heap.size + 1 by omega) (grown_then GB.out HG.out) HC.out GS
  obtain ⟨hcc, hF1, hF2⟩ := HF.out
  refine ⟨_, rfl, ⟨A1, c1, A2, c2, rfl, hcc, ?_, ?_⟩, R.1, R.2⟩
  · exact Kd.F_mono (new_keep hF1 GS (by omega)) fun k hk => ⟨by omega, hk.2⟩
  · exact Kd.F_mono (new_keep hF2 GS (by omega)) fun k hk => ⟨by omega, hk.2⟩
set_option maxRecDepth 100000 in
theorem Func_nil (w : World) : Calls Try.prog 53 #[.pointer none] w fun en w' => en = .returned (.agg #[.slice none 0 0, .slice none 0 0]) ∧ Below w.heap.size w w' := by
  have hb0 := below_alloc (Below.refl w.heap.size w) (.cells #[.pointer none] 53)
  have hb := hb0.alloc hb0.size (.cells #[.slice none 0 0, .slice none 0 0] 84)
  have q0 := heap_alloc_new (w.alloc (.cells #[.pointer none] 53)) (.cells #[.slice none 0 0, .slice none 0 0] 84)
  rw [World.size_alloc] at q0
  have RC := Aside0.mk (reads66_nil ((w.alloc (.cells #[.pointer none] 53)).alloc (.cells #[.slice none 0 0, .slice none 0 0] 84)) 67 #[.pointer (some ⟨w.heap.size, 0, none⟩)])
  have HB0 := Aside0.mk hb
  have Q := Aside0.mk (fun (W : World) (hW : Below ((w.alloc (.cells #[.pointer none] 53)).alloc (.cells #[.slice none 0 0, .slice none 0 0] 84)).heap.size ((w.alloc (.cells #[.pointer none] 53)).alloc (.cells #[.slice none 0 0, .slice none 0 0] 84)) W) => (hW.block _ (blk_lt q0)).trans q0)
  clear hb hb0 q0
  go_enter Try.func53, Try.ntmps53
  go_wp2_with (first
    | (go_at_call 66; refine RC.out.mono ?_; rintro e1 w1 ⟨rfl, hb⟩; have q2 := Q.out w1 hb; have Q2 := Aside0.mk q2; have y0 := (blk_cell q2 0).trans rfl; have y1 := (blk_cell q2 1).trans rfl; have f0 := blk_frozen q2 0; have f1 := blk_frozen q2 1; clear q2; have HB := Aside0.mk hb; clear hb)
    | fail)
  have P := blk_put2 Q2.out (.slice none 0 0) (.slice none 0 0)
  have k0 := blk_cell P 0
  have k1 := blk_cell P 1
  simp at k0 k1
  refine bodyPost_ret (v := .agg #[.slice none 0 0, .slice none 0 0]) (by simp [results, Try.results53, go_sem, k0, k1]) rfl ?_
  exact ⟨rfl, bset (bset (below_then HB0.out (by rw [World.size_alloc, World.size_alloc]; omega) HB.out) (by omega) _ _) (by omega) _ _⟩
set_option maxRecDepth 100000 in
set_option maxHeartbeats 1000000 in
/-- A new cursor over bytes. -/
theorem New_calls (w : World) (AB : Option Addr) (cB : Nat) (bs : List Int) (hbs : bs.length ≤ 1000000) (hok : okB bs) (hF : Kd.C ku w AB bs.length bs) :
    Calls Try.prog 33 #[.slice AB bs.length cB] w fun en w' => ∃ g A c, en = .returned (.pointer (some ⟨g, 0, none⟩)) ∧ Below w.heap.size w w' ∧ w.heap.size ≤ g ∧ Cur w' g A c bs 0 0 := by
  have hu := Try.underlying22
  have RW := Aside0.mk (raw_scalar hF)
  have SM := Aside0.mk (show (0 + bs.length) * 1 ≤ 140737488355328 by omega)
  have HB := Aside0.mk hbs
  have HO := Aside0.mk hok
  clear hF hbs hok
  go_enter Try.func33, Try.ntmps33
  go_wp2_with (first
    | (at_builtin
       refine loose_append rfl (.const (.slice none 0 0)) (.tmp 3) 22 5 (.int .u8 0) 1 1 rfl Try.underlying22 info5 rfl (by decide) (by decide) (.slice none 0 0) 0 [] AB bs.length cB (encs (Value.int .u8) bs) (by simp [Act.eval, Act.put]) (by simp [Act.eval, Act.put]) (Loose.nil _ _ _) RW.out SM.out ?_
       intro v1 w3 h1 h2 h3
       rw [Nat.zero_add, List.nil_append] at h1
       have h4 : BytesP w.heap.size bs v1 w3 := loose_bytes h1 (fun b hb => by
         rcases h3 with e | ⟨b', e, hle⟩
         · rw [e] at hb; cases hb
         · rw [e] at hb
           injection hb with hb
           omega)
       clear h1 h3
       obtain ⟨A1, c1, rfl, hc1, hF⟩ := h4
       have GF := Aside0.mk (And.intro hc1 hF)
       have G2 := Aside0.mk h2
       clear h2 hc1 hF)
    | fail)
  go_ret
  have hb : Below w.heap.size w w3 := ⟨G2.out.os, G2.out.tape, G2.out.output, G2.out.size, fun i hi => G2.out.block i hi (by simp [Value.ownBlock])⟩
  refine ⟨w3.heap.size, A1, c1, rfl, hb.alloc hb.size _, hb.size, heap_alloc_new w3 _, ?_, GF.out.1, Int.le_refl _, Int.natCast_nonneg _, HO.out, HB.out⟩
  exact Kd.F_mono (Kd.F_step GF.out.2 fun k hk hlt => heap_alloc_old _ hlt) fun k hk => by omega
end
end Go.Proofs.Ytjhdnlgbboboiaa.Scan
