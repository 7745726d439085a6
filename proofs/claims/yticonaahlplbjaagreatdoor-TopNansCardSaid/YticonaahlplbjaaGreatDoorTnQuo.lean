/- wide.Div: some numbers. -/
import Derived.Test.YticonaahlplbjaaGreatDoorTnProd
import Derived.Test.YticonaahlplbjaaGreatDoorTnDiv
namespace Go.Proofs.YticonaahlplbjaaGreatDoor.Tn
open Go.RowKit Go.Proofs.YticonaahlplbjaaGreatDoor.PTopNans Go.Proofs.YticonaahlplbjaaGreatDoorW.PrintWords Go.Proofs.YticonaahlplbjaaGreatDoorW.PrintLast Go.Proofs.YticonaahlplbjaaGreatDoorW.PrintMore
set_option linter.unusedVariables false
set_option linter.unusedSimpArgs false
/-- What wide.Div answers. -/
def DivP (w : World) (e : Ending) (w' : World) : Prop := ∃ qh ql r er, e = .returned (.tuple #[.agg #[.int .u64 qh, .int .u64 ql], .int .u64 r, .int .i64 er]) ∧ u64 qh ∧ u64 ql ∧ u64 r ∧ Below w.heap.size w w'
set_option maxRecDepth 100000 in
set_option maxHeartbeats 4000000 in
theorem Div_calls (h l b : Int) (w : World) (hh : u64 h) (hl : u64 l) (hb : u64 b) : Calls Tryz.prog 149 #[.agg #[.int .u64 h, .int .u64 l], .int .u64 b] w (DivP w) := by
  by_cases b0 : b = 0
  · have d : (b == 0) = true := beq_iff_eq.2 b0
    clear b0
    have P : ((w.alloc (.cells #[.int .u64 h, .int .u64 l] 98)).alloc (.cells #[.int .u64 0, .int .u64 0] 98)).heap[w.heap.size + 1]? = some (.cells #[.int .u64 0, .int .u64 0] 98 (0, 0)) := by
      have := heap_alloc_new (w.alloc (.cells #[.int .u64 h, .int .u64 l] 98)) (.cells #[.int .u64 0, .int .u64 0] 98)
      rw [World.size_alloc] at this
      exact this
    have k0 := (blk_cell P 0).trans rfl
    have k1 := (blk_cell P 1).trans rfl
    clear P
    go_enter Tryz.func149, Tryz.ntmps149
    go_wp2
    refine bodyPost_ret (v := .tuple #[.agg #[.int .u64 0, .int .u64 0], .int .u64 0, .int .i64 4]) (by simp [results, Tryz.results149, go_sem, k0, k1]) rfl ?_
    exact ⟨0, 0, 0, 4, rfl, u64_0, u64_0, u64_0, (below_alloc (Below.refl _ _) _).alloc (by rw [World.size_alloc]; omega) _⟩
  · have d : (b == 0) = false := beq_eq_false_iff_ne.2 b0
    obtain ⟨q, hq⟩ : ∃ q, IntKind.u64.wrap (h.tdiv b) = q := ⟨_, rfl⟩
    obtain ⟨m, hm⟩ : ∃ m, h.tmod b = m := ⟨_, rfl⟩
    have QQ := Aside0.mk (show Tn.u64 q by rw [← hq]; exact u64_wrap _)
    have MM := Aside0.mk (show Tn.u64 m ∧ m < b by
      have h1 := hb.1
      have h2 := hb.2
      have h3 : 0 < b := by omega
      rw [← hm, Int.tmod_eq_emod_of_nonneg hh.1]
      have h4 := Int.emod_nonneg h b0
      have h5 := Int.emod_lt_of_pos h h3
      exact ⟨⟨h4, by omega⟩, h5⟩)
    have LL := Aside0.mk (And.intro hl hb)
    clear hh hl hb
    go_enter Tryz.func149, Tryz.ntmps149
    go_wp2
    obtain ⟨W1, hW1⟩ : ∃ W1, W1 = (w.alloc (.cells #[.int .u64 h, .int .u64 l] 98)).alloc (.cells #[.int .u64 q, .int .u64 0] 98) := ⟨_, rfl⟩
    have q0 := heap_alloc_new w (.cells #[.int .u64 h, .int .u64 l] 98)
    have A1 := Aside0.mk (show W1.heap[w.heap.size]? = some (.cells #[.int .u64 h, .int .u64 l] 98 (0, 0)) by rw [hW1]; exact (heap_alloc_old _ (blk_lt q0)).trans q0)
    have R1 := Aside0.mk (show W1.heap[w.heap.size + 1]? = some (.cells #[.int .u64 q, .int .u64 0] 98 (0, 0)) by
      rw [hW1]
      have := heap_alloc_new (w.alloc (.cells #[.int .u64 h, .int .u64 l] 98)) (.cells #[.int .u64 q, .int .u64 0] 98)
      rw [World.size_alloc] at this
      exact this)
    have HS1 := Aside0.mk (show Below w.heap.size w W1 by rw [hW1]; exact (below_alloc (Below.refl _ _) _).alloc (by rw [World.size_alloc]; omega) _)
    rw [← hW1]
    clear hW1 q0
    have a0 := (blk_cell A1.out 0).trans rfl
    have a1 := (blk_cell A1.out 1).trans rfl
    go_region_held (fun W => W.cell? ⟨w.heap.size, 0, none⟩ = some (.int .u64 h) ∧ W.cell? ⟨w.heap.size, 1, none⟩ = some (.int .u64 l)) (go_keep) (first
      | (go_at_call 160; refine (Div64_calls m l b _ MM.out.1 LL.out.1 LL.out.2 MM.out.2).mono ?_
         rintro e w2 ⟨ql, r, rfl, v1, v2, hb⟩
         have H2 := Aside0.mk (below_then (below_drew HS1.out) (below_drew HS1.out).size hb)
         have a2 := (hb.block _ (blk_lt A1.out)).trans A1.out
         have r2 := (hb.block _ (blk_lt R1.out)).trans R1.out
         have R2 := Aside0.mk r2
         have VV := Aside0.mk (And.intro v1 v2)
         clear a0 a1 v1 v2
         have a0 := (blk_cell a2 0).trans rfl
         have a1 := (blk_cell a2 1).trans rfl
         have y0 := (blk_cell r2 0).trans rfl
         have y1 := (blk_cell r2 1).trans rfl
         have fz0 := blk_frozen r2 0
         have fz1 := blk_frozen r2 1
         clear hb a2 r2)
      | fail)
    have P' := blk_set R2.out 1 (.int .u64 ql)
    obtain ⟨W3, hW3⟩ : ∃ W3, W3 = w2.setCell ⟨w.heap.size + 1, 1, none⟩ (.int .u64 ql) := ⟨_, rfl⟩
    have P : W3.heap[w.heap.size + 1]? = some (.cells #[.int .u64 q, .int .u64 ql] 98 (0, 0)) := by rw [hW3]; simpa using P'
    have H3 := Aside0.mk (show Below w.heap.size w W3 by rw [hW3]; exact bset H2.out (by omega) _ _)
    rw [← hW3]
    clear hW3 P' y0 y1 fz0 fz1 a0 a1
    have y0 := (blk_cell P 0).trans rfl
    have y1 := (blk_cell P 1).trans rfl
    have fz0 := blk_frozen P 0
    have fz1 := blk_frozen P 1
    have P2 := blk_set (blk_set P 0 (.int .u64 q)) 1 (.int .u64 ql)
    have k0 := blk_cell P2 0
    have k1 := blk_cell P2 1
    simp at k0 k1
    go_wp2
    refine bodyPost_ret (v := .tuple #[.agg #[.int .u64 q, .int .u64 ql], .int .u64 r, .int .i64 0]) (by simp [results, Tryz.results149, go_sem, k0, k1]) rfl ?_
    exact ⟨q, ql, r, 0, rfl, QQ.out, VV.out.1, VV.out.2, bset (bset H3.out (by omega) _ _) (by omega) _ _⟩
theorem i64r_any (x : Int) : i64r (wrap64 x) := by unfold i64r wrap64; omega
set_option maxRecDepth 100000 in
set_option maxHeartbeats 4000000 in
theorem full_calls (neg : Bool) (k ex s : Int) (w : World) (us : u64 s) : Calls Tryz.prog 148 #[.agg #[.bool neg, .int .i64 k, .int .i64 ex, .int .u64 s]] w fun e w' => ∃ a n, e = .returned (.tuple #[.int .u64 a, .int .i64 n]) ∧ u64 a ∧ Below w.heap.size w w' := by
  have L := Aside0.mk (fun W => Tryz.bits_LeadingZeros64 s W us.1 (by have := us.2; omega))
  have LE := Lib.bitLen_le s.toNat 64 (by omega) (by have := us.2; omega)
  obtain ⟨z, hz⟩ : ∃ z : Int, 64 - (Lib.bitLen s.toNat : Int) = z := ⟨_, rfl⟩
  rw [hz] at L
  have z0 : 0 ≤ z := by omega
  have z1 : z ≤ 64 := by omega
  clear hz LE us
  have q0 := heap_alloc_new w (.cells #[.bool neg, .int .i64 k, .int .i64 ex, .int .u64 s] 106)
  have HB := Aside0.mk (below_alloc (Below.refl w.heap.size w) (.cells #[.bool neg, .int .i64 k, .int .i64 ex, .int .u64 s] 106))
  have c2 := (blk_cell q0 2).trans rfl
  have c3 := (blk_cell q0 3).trans rfl
  clear q0
  go_enter Tryz.func148, Tryz.ntmps148
  go_wp2_with (first
    | (go_at_call 159; refine (L.out _).mono ?_; rintro e w' ⟨rfl, rfl⟩)
    | fail)
  go_quiet (fail)
  go_wp2
  refine bodyPost_ret (v := .tuple #[.int .u64 (IntKind.u64.wrap (s * 2 ^ z.toNat)), .int .i64 (wrap64 (ex - z))]) (by simp [results, Tryz.results148, go_sem]) rfl ?_
  exact ⟨_, _, rfl, u64_wrap _, HB.out.trans ⟨rfl, rfl, rfl, Nat.le_refl _, fun _ _ => rfl⟩⟩
end Go.Proofs.YticonaahlplbjaaGreatDoor.Tn
