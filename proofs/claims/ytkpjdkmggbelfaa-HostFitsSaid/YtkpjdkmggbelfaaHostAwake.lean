/- The chapter's example. -/
import Derived.Test.YtkpjdkmggbelfaaHostRDone
import Derived.Outline
namespace Go.Proofs.Ytkpjdkmggbelfaa.Host
open Go.RowKit Go.Proofs.YtkpjdkmggbelfaaW.PrintWords Go.Proofs.YtkpjdkmggbelfaaW.PrintLast Go.Proofs.YtkpjdkmggbelfaaW.PrintMore Go.Proofs.Ytkpjdkmggbelfaa.Mem Go.Proofs.Ytkpjdkmggbelfaa.PHostPlays
set_option linter.unusedVariables false
set_option linter.unusedSimpArgs false
theorem two_answers (W : World) (b1 b2 : Nat) (h1 : W.heap[b1]? = some (.cells #[.int .u64 1] 113 (0, 0))) (h2 : W.heap[b2]? = some (.cells #[.bool false, .slice (some ⟨b1, 0, none⟩) 1 1, .bool true, .slice none 0 0] 109 (0, 0))) :
    Kd.F k109 W (fun k => k = b1 ∨ k = b2) (some ⟨b2, 0, none⟩) 2 [⟨false, [1]⟩, ⟨true, []⟩] := by
  intro W' hW
  have g1 := (hW b1 (.inl rfl) (blk_lt h1)).trans h1
  have g2 := (hW b2 (.inr rfl) (blk_lt h2)).trans h2
  have hml : maxLen = 9223372036854775807 := rfl
  refine ⟨rfl, by simp [hml], fun _ => ⟨_, rfl, fun j p hj => ?_⟩⟩
  match j, hj with
  | 0, hj =>
    simp only [List.getElem?_cons_zero, Option.some.injEq] at hj
    subst hj
    refine ⟨_, rfl, k109_mk W' ⟨false, [1]⟩ (c1 := 1) (A1 := some ⟨b1, 0, none⟩) (by simp) ⟨rfl, by simp [hml], fun _ => ⟨_, rfl, fun j p hj => ?_⟩⟩, fun i u hu => ?_⟩
    · match j, hj with
      | 0, hj =>
        simp only [List.getElem?_cons_zero, Option.some.injEq] at hj
        subst hj
        refine ⟨[.int .u64 1], rfl, rfl, fun i u hu => ?_⟩
        match i, hu with
        | 0, hu =>
          simp only [List.getElem?_cons_zero, Option.some.injEq] at hu
          subst hu
          exact (blk_cell g1 0).trans rfl
    · match i, hu with
      | 0, hu =>
        simp only [List.getElem?_cons_zero, Option.some.injEq] at hu
        subst hu
        exact (blk_cell g2 0).trans rfl
      | 1, hu =>
        simp only [List.getElem?_cons_succ, List.getElem?_cons_zero, Option.some.injEq] at hu
        subst hu
        exact (blk_cell g2 1).trans rfl
  | 1, hj =>
    simp only [List.getElem?_cons_succ, List.getElem?_cons_zero, Option.some.injEq] at hj
    subst hj
    refine ⟨_, rfl, k109_mk W' ⟨true, []⟩ (c1 := 0) (A1 := none) (by simp) (Kd.C_nil _ W'), fun i u hu => ?_⟩
    match i, hu with
    | 0, hu =>
      simp only [List.getElem?_cons_zero, Option.some.injEq] at hu
      subst hu
      exact (blk_cell g2 2).trans rfl
    | 1, hu =>
      simp only [List.getElem?_cons_succ, List.getElem?_cons_zero, Option.some.injEq] at hu
      subst hu
      exact (blk_cell g2 3).trans rfl
def Told (w : World) (e : Ending) (w' : World) : Prop := e = .returned (.bool true) ∧ Below w.heap.size w w'
theorem row_head {e : Nat} {W : World} {ok : Nat → Prop} {A : Option Addr} {n c : Nat} {x : S109} {r : List S109} (h : Row k109 e W ok (.slice A n c) (x :: r)) : ∃ g, A = some ⟨g, 0, none⟩ ∧ W.cell? ⟨g, 0, none⟩ = some (.bool x.f0) := by
  obtain ⟨hn, _, hF⟩ := h.F
  obtain ⟨ad, A1, c1, eA, x0, _⟩ := at_T109 (Kd.F_now hF) 0 (by omega) (by simp)
  obtain ⟨rows, hl, hL, hf⟩ := h
  rcases hL.2 with ⟨_, h0⟩ | ⟨g, cap, cur, he, _⟩
  · simp at h0
  · injection he with he
    subst he
    injection eA with eA
    subst eA
    exact ⟨g, rfl, x0⟩
set_option maxRecDepth 100000 in
set_option maxHeartbeats 4000000 in
theorem awake_calls (w : World) : Calls Try.prog 21 #[] w (Told w) := by
  have NC := Aside0.mk (New_calls w.heap.size w (Nat.le_refl _))
  have hu77 := Try.underlying77
  have hu109 := Try.underlying109
  go_enter Try.func21, Try.ntmps21
  go_wp2_with (first
    | (go_at_call 23
       (with_reducible refine NC.out.mono ?_)
       rintro e w1 ⟨g, tag, rfl, hq, hg, ht, hb⟩
       have HQ := Aside0.mk hq
       have HB1 := Aside0.mk hb
       clear hq hg ht hb)
    | fail)
  have hb2 := (below_alloc (Below.refl w1.heap.size w1) (.cells #[.int .u64 1] 113)).alloc (by rw [World.size_alloc]; omega) (.cells #[.bool false, .slice (some ⟨w1.heap.size, 0, none⟩) 1 1, .bool true, .slice none 0 0] 109)
  have hk1 := (Below.heap_alloc (w1.alloc (.cells #[.int .u64 1] 113)) (.cells #[.bool false, .slice (some ⟨w1.heap.size, 0, none⟩) 1 1, .bool true, .slice none 0 0] 109) w1.heap.size (by rw [World.size_alloc]; omega)).trans (heap_alloc_new w1 (.cells #[.int .u64 1] 113))
  have hk2 := heap_alloc_new (w1.alloc (.cells #[.int .u64 1] 113)) (.cells #[.bool false, .slice (some ⟨w1.heap.size, 0, none⟩) 1 1, .bool true, .slice none 0 0] 109)
  rw [World.size_alloc] at hk2
  have FC := Aside0.mk (Feed_calls w.heap.size _ g tag [] [] [] _ _ _ (HQ.out.below hb2) (some ⟨w1.heap.size + 1, 0, none⟩) 2 [⟨false, [1]⟩, ⟨true, []⟩] (by simp) (by simp)
    (Kd.F_mono (two_answers _ _ _ hk1 hk2) fun k hk => ⟨by rw [World.size_alloc, World.size_alloc]; omega, Classical.byContradiction fun hn => by have := (HQ.out.tagged k hn).2; omega⟩) (by simp) none 0 [] (by simp) (by simp) (fun W' _ => Kd.C_nil _ W'))
  have HB2 := Aside0.mk ((HB1.out.trans (hb2.mono HB1.out.size)))
  clear hb2 hk1 hk2 HB1 NC
  refine (FC.out).mono ?_
  rintro e w3 ⟨rfl, hq⟩
  obtain ⟨tag3, va3, vg3, vc3, h3, _, hb3, _⟩ := hq.step
  have H3 := Aside0.mk h3
  have HB3 := Aside0.mk (HB2.out.trans hb3)
  have DC := Aside0.mk (done_yes w.heap.size w3 g tag3 _ _ _ va3 vg3 vc3 0 none 0 0 0 0 none 0 [] h3 1 0 (by simp) (by simp) (by simp) (by simp) (by simp) (by simp) (fun W' _ => Kd.C_nil _ W') (by simp))
  clear hq h3 hb3 FC HQ HB2
  go_wp2_with fail
  refine (DC.out).mono ?_
  rintro e w4 ⟨rfl, hq⟩
  obtain ⟨tag4, va4, vg4, vc4, h4, _, hb4, _⟩ := hq.step
  have H4 := Aside0.mk h4
  have HB4 := Aside0.mk (HB3.out.trans hb4)
  have LC := Aside0.mk (Left_calls w.heap.size w4 g tag4 _ _ _ va4 vg4 vc4 h4 (by simp) (by simp) (by simp))
  clear hq h4 hb4 DC H3 HB3
  go_wp2_with fail
  refine (LC.out).mono ?_
  rintro e w5 ⟨A5, c5, A6, c6, rfl, hr, _, _, _, hb5⟩
  obtain ⟨gb, rfl, x0⟩ := row_head hr.k109o
  have HB5 := Aside0.mk (below_then HB4.out HB4.out.size hb5)
  have H5 := Aside0.mk (H4.out.below hb5)
  clear hr hb5 LC H4 HB4
  have hba := below_alloc (Below.refl w5.heap.size w5) (.cells #[.slice (some ⟨gb, 0, none⟩) 1 c5, .slice A6 0 c6] 77)
  have DN := Aside0.mk (done_no1 w.heap.size _ g tag4 _ _ _ va4 vg4 vc4 (H5.out.below hba) 0 none 0 0 0 0 2 0 none 0 [] (by simp))
  have HB6 := Aside0.mk (below_then HB5.out HB5.out.size hba)
  have x0' := (hba.cell (World.block_lt_of_cell? w5 _ x0)).trans x0
  clear hba
  go_wp2_with fail
  refine (DN.out).mono ?_
  rintro e w6 ⟨rfl, hq⟩
  obtain ⟨tag6, va6, vg6, vc6, _, _, hb6, _⟩ := hq.step
  have HB7 := Aside0.mk (HB6.out.trans hb6)
  clear hq hb6 DN HB6
  go_wp2
  go_ret
  exact ⟨rfl, HB7.out⟩
end Go.Proofs.Ytkpjdkmggbelfaa.Host
