/- The walks of the reference's Kill, Pop. -/
import Derived.Test.YtkpjdkmggbelfaaOpRefW
namespace Go.Proofs.Ytkpjdkmggbelfaa.Operand
open Go.RowKit Go.Proofs.YtkpjdkmggbelfaaW.PrintWords Go.Proofs.YtkpjdkmggbelfaaW.PrintLast Go.Proofs.YtkpjdkmggbelfaaW.PrintMore Go.Proofs.Ytkpjdkmggbelfaa.Mem
set_option linter.unusedVariables false
set_option linter.unusedSimpArgs false
section
variable (base : Nat) (w : World) (g : Nat) (tag : Nat → Nat) (fs gs : List Fr) (f : Fr) (v : Value) (cells : List Value)
set_option maxRecDepth 100000 in
set_option maxHeartbeats 1000000 in
theorem RKill_none (h : RStk base w g tag [] v cells) : Calls Try.prog 80 #[.pointer (some ⟨g, 0, none⟩)] w (RVoid base w g tag []) := by
  obtain ⟨A, c, rfl, hbox⟩ := rstk_empty h
  have H := Aside0.mk h
  have z0 := hbox.c0
  clear h hbox
  go_enter Try.func80, Try.ntmps80
  go_wp2
  go_end0
  exact ⟨rfl, (RAfterV.same H.out (Below.refl _ _)).any⟩
set_option maxRecDepth 100000 in
set_option maxHeartbeats 4000000 in
theorem RKill_some (h : RStk base w g tag (gs ++ [f]) v cells) (hm : gs.length ≤ 1000000) : Calls Try.prog 80 #[.pointer (some ⟨g, 0, none⟩)] w (RVoid base w g tag (gs ++ [{ f with types := [], dead := true }])) := by
  obtain ⟨b, cap, A0, c0, A1, c1, A2, c2, rfl, hL⟩ := rstk_last h
  have H := Aside0.mk h
  have HL := Aside0.mk hL
  have hmI : (gs.length : Int) ≤ 1000000 := by omega
  have hu183 := Try.underlying183
  have z0 := HL.out.box.c0
  have x0 := HL.out.x0
  have x1 := HL.out.x1
  have x2 := HL.out.x2
  have x3 := HL.out.x3
  have az : ∀ o, (w.alloc o).cell? ⟨g, 0, none⟩ = some (.slice (some ⟨b, 0, none⟩) (gs.length + 1) cap) := fun o => cell_of (p := ⟨g, 0, none⟩) (Below.heap_alloc w o g HL.out.gb) HL.out.box.c0
  have ax0 : ∀ o, (w.alloc o).cell? ⟨b, gs.length * 4, none⟩ = some (.slice A0 f.label.length c0) := fun o => cell_of (p := ⟨b, gs.length * 4, none⟩) (Below.heap_alloc w o b HL.out.bb) HL.out.x0
  have ax1 : ∀ o, (w.alloc o).cell? ⟨b, gs.length * 4 + 1, none⟩ = some (.slice A1 f.fin.length c1) := fun o => cell_of (p := ⟨b, gs.length * 4 + 1, none⟩) (Below.heap_alloc w o b HL.out.bb) HL.out.x1
  have ax2 : ∀ o, (w.alloc o).cell? ⟨b, gs.length * 4 + 2, none⟩ = some (.slice A2 f.types.length c2) := fun o => cell_of (p := ⟨b, gs.length * 4 + 2, none⟩) (Below.heap_alloc w o b HL.out.bb) HL.out.x2
  have ax3 : ∀ o, (w.alloc o).cell? ⟨b, gs.length * 4 + 3, none⟩ = some (.bool f.dead) := fun o => cell_of (p := ⟨b, gs.length * 4 + 3, none⟩) (Below.heap_alloc w o b HL.out.bb) HL.out.x3
  have af0 : ∀ o, (w.alloc o).frozen? ⟨b, gs.length * 4, none⟩ = false := fun o => frozen_of (p := ⟨b, gs.length * 4, none⟩) (Below.heap_alloc w o b HL.out.bb) (HL.out.fz _)
  have af1 : ∀ o, (w.alloc o).frozen? ⟨b, gs.length * 4 + 1, none⟩ = false := fun o => frozen_of (p := ⟨b, gs.length * 4 + 1, none⟩) (Below.heap_alloc w o b HL.out.bb) (HL.out.fz _)
  have af2 : ∀ o, (w.alloc o).frozen? ⟨b, gs.length * 4 + 2, none⟩ = false := fun o => frozen_of (p := ⟨b, gs.length * 4 + 2, none⟩) (Below.heap_alloc w o b HL.out.bb) (HL.out.fz _)
  have af3 : ∀ o, (w.alloc o).frozen? ⟨b, gs.length * 4 + 3, none⟩ = false := fun o => frozen_of (p := ⟨b, gs.length * 4 + 3, none⟩) (Below.heap_alloc w o b HL.out.bb) (HL.out.fz _)
  have n1 : g ≠ w.heap.size := Nat.ne_of_lt HL.out.gb
  have n2 : b ≠ w.heap.size := Nat.ne_of_lt HL.out.bb
  clear h hL hm
  go_enter Try.func80, Try.ntmps80
  go_wp2
  have hi1 : IntKind.i64.wrap ((gs.length : Int) + 1 - 1) = (gs.length : Int) := by rw [i64_is (by omega) (by omega)]; omega
  have hi2 : IntKind.i64.wrap (gs.length : Int) = (gs.length : Int) := i64_is (by omega) (by omega)
  have hi3 : wrap64 (gs.length : Int) = (gs.length : Int) := by unfold wrap64; omega
  go_region
  all_goals
    go_wp2
    go_end0
    refine ⟨rfl, ?_⟩
  have hW1 : Below w.heap.size w (w.alloc (.cells #[.slice A0 f.label.length c0, .slice A1 f.fin.length c1, .slice none 0 0, .bool true] 183)) := below_alloc (Below.refl _ _) _
  exact ((rstk_set (f' := { f with types := [], dead := true }) H.out hW1 _ newTag_old newTag_new (rd_up HL.out.r0 hW1 H.out.low H.out.tagged) (rd_up HL.out.r1 hW1 H.out.low H.out.tagged) (Rd.nil _ _ _)).below (below_drew (Below.refl _ _))).any
def RPopAll (base : Nat) (w : World) (g : Nat) (tag : Nat → Nat) (v : Value) (r : Int × Int × List Fr) (e : Ending) (w' : World) : Prop := e = .returned (.tuple #[.int .u8 r.1, .int .i64 r.2.1]) ∧ RAfterV base w g tag r.2.2 v w'
theorem Rd.take {base : Nat} {W : World} {tag : Nat → Nat} {A : Option Addr} {c : Nat} {l ts : List Int} {x : Int} (h : Rd base W tag A c l) (e : l = ts ++ [x]) : Rd base W tag A c ts := by
  subst e
  have hl := h.le
  rw [List.length_append] at hl
  refine ⟨by omega, Kd.F_imp h.r fun W' hC => ?_⟩
  have := Kd.C_take (m := ts.length) hC (by rw [List.length_append]; omega)
  rwa [List.take_left'  rfl] at this
set_option maxRecDepth 100000 in
set_option maxHeartbeats 4000000 in
theorem RPop_calls (h : RStk base w g tag fs v cells) (hs : Small 1000000 fs) (want : Int) : Calls Try.prog 78 #[.pointer (some ⟨g, 0, none⟩), .int .u8 want] w (RPopAll base w g tag v (popM fs want)) := by
  rcases parted fs with rfl | ⟨gs, f, rfl⟩
  · rw [popM_nil]
    obtain ⟨A, c, rfl, hbox⟩ := rstk_empty h
    have H := Aside0.mk h
    have z0 := hbox.c0
    clear h hbox hs
    go_enter Try.func78, Try.ntmps78
    go_wp2
    go_ret2
    exact ⟨rfl, RAfterV.same H.out (Below.refl _ _)⟩
  have hm : gs.length ≤ 1000000 := by have := hs.1; simp at this; omega
  have hn := (small_of_last hs).1
  obtain ⟨b, cap, A0, c0, A1, c1, A2, c2, rfl, hL⟩ := rstk_last h
  have H := Aside0.mk h
  have HL := Aside0.mk hL
  have hmI : (gs.length : Int) ≤ 1000000 := by omega
  have hu183 := Try.underlying183
  have z0 := HL.out.box.c0
  have x0 := HL.out.x0
  have x1 := HL.out.x1
  have x2 := HL.out.x2
  have x3 := HL.out.x3
  have az : ∀ o, (w.alloc o).cell? ⟨g, 0, none⟩ = some (.slice (some ⟨b, 0, none⟩) (gs.length + 1) cap) := fun o => cell_of (p := ⟨g, 0, none⟩) (Below.heap_alloc w o g HL.out.gb) HL.out.box.c0
  have ax0 : ∀ o, (w.alloc o).cell? ⟨b, gs.length * 4, none⟩ = some (.slice A0 f.label.length c0) := fun o => cell_of (p := ⟨b, gs.length * 4, none⟩) (Below.heap_alloc w o b HL.out.bb) HL.out.x0
  have ax1 : ∀ o, (w.alloc o).cell? ⟨b, gs.length * 4 + 1, none⟩ = some (.slice A1 f.fin.length c1) := fun o => cell_of (p := ⟨b, gs.length * 4 + 1, none⟩) (Below.heap_alloc w o b HL.out.bb) HL.out.x1
  have ax2 : ∀ o, (w.alloc o).cell? ⟨b, gs.length * 4 + 2, none⟩ = some (.slice A2 f.types.length c2) := fun o => cell_of (p := ⟨b, gs.length * 4 + 2, none⟩) (Below.heap_alloc w o b HL.out.bb) HL.out.x2
  have ax3 : ∀ o, (w.alloc o).cell? ⟨b, gs.length * 4 + 3, none⟩ = some (.bool f.dead) := fun o => cell_of (p := ⟨b, gs.length * 4 + 3, none⟩) (Below.heap_alloc w o b HL.out.bb) HL.out.x3
  have af0 : ∀ o, (w.alloc o).frozen? ⟨b, gs.length * 4, none⟩ = false := fun o => frozen_of (p := ⟨b, gs.length * 4, none⟩) (Below.heap_alloc w o b HL.out.bb) (HL.out.fz _)
  have af1 : ∀ o, (w.alloc o).frozen? ⟨b, gs.length * 4 + 1, none⟩ = false := fun o => frozen_of (p := ⟨b, gs.length * 4 + 1, none⟩) (Below.heap_alloc w o b HL.out.bb) (HL.out.fz _)
  have af2 : ∀ o, (w.alloc o).frozen? ⟨b, gs.length * 4 + 2, none⟩ = false := fun o => frozen_of (p := ⟨b, gs.length * 4 + 2, none⟩) (Below.heap_alloc w o b HL.out.bb) (HL.out.fz _)
  have af3 : ∀ o, (w.alloc o).frozen? ⟨b, gs.length * 4 + 3, none⟩ = false := fun o => frozen_of (p := ⟨b, gs.length * 4 + 3, none⟩) (Below.heap_alloc w o b HL.out.bb) (HL.out.fz _)
  have n1 : g ≠ w.heap.size := Nat.ne_of_lt HL.out.gb
  have n2 : b ≠ w.heap.size := Nat.ne_of_lt HL.out.bb
  rcases parted_ints f.types with ht | ⟨ts, x, ht⟩
  · rw [popM_empty _ _ _ ht]
    rw [ht] at x2 ax2
    clear h hL hm hn hs ht
    obtain ⟨dd, hd⟩ : ∃ dd, dd = f.dead := ⟨_, rfl⟩
    rw [← hd] at x3 ax3 ⊢
    clear hd
    cases dd with
    | true =>
      go_enter Try.func78, Try.ntmps78
      go_wp2
      go_ret2
      exact ⟨rfl, RAfterV.same H.out (below_alloc (Below.refl _ _) _)⟩
    | false =>
      go_enter Try.func78, Try.ntmps78
      go_wp2
      go_ret2
      exact ⟨rfl, RAfterV.same H.out (below_alloc (Below.refl _ _) _)⟩
  have hlen : f.types.length = ts.length + 1 := by rw [ht]; simp
  have hk : ts.length ≤ 1000000 := by omega
  have hkI : (ts.length : Int) ≤ 1000000 := by omega
  have hcl := hL.r2.le
  obtain ⟨ad, e2, hx⟩ := u8_at (Kd.F_now hL.r2.r) ts.length (by omega)
  subst e2
  have hrd : rd f.types (ts.length : Int) = x := by rw [ht]; simp [rd]
  rw [hrd] at hx
  have ahx : ∀ o, (w.alloc o).cell? (ad.add ts.length) = some (.int .u8 x) := fun o => cell_of (p := ad.add ts.length) (Below.heap_alloc w o _ (World.block_lt_of_cell? w _ hx)) hx
  have R2 := Aside0.mk (hL.r2.take ht)
  rw [hlen] at x2 ax2 hcl
  have d0 : ((ts.length : Int) + 1 == 0) = false := beq_eq_false_iff_ne.2 (by omega)
  by_cases hc : x ≠ 0 ∧ want ≠ 0 ∧ x ≠ want
  · rw [popM_miss _ _ _ _ _ ht hc]
    have e1 : (want != x) = true := bne_iff_ne.2 (fun e => hc.2.2 e.symm)
    have e2 : (want != 0) = true := bne_iff_ne.2 hc.2.1
    have e3 : (x != 0) = true := bne_iff_ne.2 hc.1
    clear h hL hm hn hs ht hc hrd hx hlen
    go_enter Try.func78, Try.ntmps78
    go_wp2
    go_ret2
    exact ⟨rfl, RAfterV.same H.out (below_alloc (Below.refl _ _) _)⟩
  · rw [popM_hit _ _ _ _ _ ht hc]
    have hcI : (ts.length : Int) ≤ (c2 : Int) := by omega
    have hor : x = 0 ∨ want = 0 ∨ x = want := by omega
    have dn : ∀ y z : Int, y = z → (y != z) = false := fun y z e => by rw [e]; exact bne_self_eq_false _
    have wk1 : IntKind.i64.wrap ((ts.length : Int) + 1 - 1) = (ts.length : Int) := by rw [i64_is (by omega) (by omega)]; omega
    have wk2 : IntKind.i64.wrap (ts.length : Int) = (ts.length : Int) := i64_is (by omega) (by omega)
    have wk3 : wrap64 (ts.length : Int) = (ts.length : Int) := by unfold wrap64; omega
    have hi1 : IntKind.i64.wrap ((gs.length : Int) + 1 - 1) = (gs.length : Int) := by rw [i64_is (by omega) (by omega)]; omega
    have hi2 : IntKind.i64.wrap (gs.length : Int) = (gs.length : Int) := i64_is (by omega) (by omega)
    have hi3 : wrap64 (gs.length : Int) = (gs.length : Int) := by unfold wrap64; omega
    have hW1 : Below w.heap.size w (w.alloc (.cells #[.slice A0 f.label.length c0, .slice A1 f.fin.length c1, .slice (some ad) ts.length c2, .bool f.dead] 183)) := below_alloc (Below.refl _ _) _
    have FIN := Aside0.mk (rstk_set (f' := { f with types := ts }) H.out hW1 _ newTag_old newTag_new (rd_up HL.out.r0 hW1 H.out.low H.out.tagged) (rd_up HL.out.r1 hW1 H.out.low H.out.tagged) (rd_up R2.out hW1 H.out.low H.out.tagged))
    by_cases q1 : x = want
    · have e1 : (want != x) = false := dn _ _ q1.symm
      clear q1 dn
      clear h hL hm hn hs ht hc hrd hx hlen hor hW1
      go_enter Try.func78, Try.ntmps78
      go_wp2
      go_region
      all_goals
        go_wp2
        go_ret2
        refine ⟨rfl, ?_⟩
      exact FIN.out.below (below_drew (Below.refl _ _))
    have e1 : (want != x) = true := bne_iff_ne.2 (fun e => q1 e.symm)
    by_cases q2 : want = 0
    · have e2 : (want != 0) = false := dn _ _ q2
      clear q1 q2 dn
      clear h hL hm hn hs ht hc hrd hx hlen hor hW1
      go_enter Try.func78, Try.ntmps78
      go_wp2
      go_region
      all_goals
        go_wp2
        go_ret2
        refine ⟨rfl, ?_⟩
      exact FIN.out.below (below_drew (Below.refl _ _))
    have e2 : (want != 0) = true := bne_iff_ne.2 q2
    have e3 : (x != 0) = false := dn _ _ (by omega)
    clear q1 q2 dn
    clear h hL hm hn hs ht hc hrd hx hlen hor hW1
    go_enter Try.func78, Try.ntmps78
    go_wp2
    go_region
    all_goals
      go_wp2
      go_ret2
      refine ⟨rfl, ?_⟩
    exact FIN.out.below (below_drew (Below.refl _ _))
end
end Go.Proofs.Ytkpjdkmggbelfaa.Operand
