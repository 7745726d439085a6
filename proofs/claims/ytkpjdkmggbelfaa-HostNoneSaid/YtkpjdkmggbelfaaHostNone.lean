/- The law HostNone: it returns true. -/
import Derived.Test.YtkpjdkmggbelfaaHostOff
import Derived.Outline
namespace Go.Proofs.Ytkpjdkmggbelfaa.Host
open Go.RowKit Go.Proofs.YtkpjdkmggbelfaaW.PrintWords Go.Proofs.YtkpjdkmggbelfaaW.PrintLast Go.Proofs.YtkpjdkmggbelfaaW.PrintMore Go.Proofs.Ytkpjdkmggbelfaa.Mem Go.Proofs.Ytkpjdkmggbelfaa.PHostPlays
set_option linter.unusedVariables false
set_option linter.unusedSimpArgs false
theorem one_C {α : Type} {d : Kd α} {W : World} {b : Nat} {cs : Array Value} {e : Nat} {X : α} (hb : W.heap[b]? = some (.cells cs e (0, 0))) (hK : d.K W X cs.toList) : Kd.C d W (some ⟨b, 0, none⟩) 1 [X] := by
  have hml : maxLen = 9223372036854775807 := rfl
  refine ⟨rfl, by simp [hml], fun _ => ⟨_, rfl, fun j p hj => ?_⟩⟩
  match j, hj with
  | 0, hj =>
    simp only [List.getElem?_cons_zero, Option.some.injEq] at hj
    subst hj
    refine ⟨cs.toList, d.K_len hK, hK, fun i u hu => ?_⟩
    rw [Nat.zero_mul, Nat.zero_add]
    rw [add_plain, blk_cell hb, ← Array.getElem?_toList]
    exact hu
set_option maxRecDepth 100000 in
set_option maxHeartbeats 8000000 in
theorem none_walk (w : World) (X : S84) (cs : List Value) (hK : k84.K w X cs) (hin : X.f1.f0.length ≤ 9223372036854775807 ∧ X.f2.f6.length ≤ 9223372036854775807) : Calls Try.prog 7 #[.agg cs.toArray] w (Told w) := by
  obtain ⟨A1, c1, A2, c2, A4, c4, A9, c9, rfl, -⟩ := k84_open hK
  obtain ⟨k, r, hf⟩ := few_ends [X] 1 (by simp) (by simpa using hin)
  have hb0 := below_alloc (Below.refl w.heap.size w) (.cells #[.int .i64 X.f0, .slice A1 X.f1.f0.length c1, .slice A2 X.f1.f1.length c2, .int .i64 X.f2.f0, .slice A4 X.f2.f1.length c4, .int .i64 X.f2.f2, .int .i64 X.f2.f3, .int .i64 X.f2.f4, .int .i64 X.f2.f5, .slice A9 X.f2.f6.length c9] 84)
  have BX := Aside0.mk (heap_alloc_new w (.cells #[.int .i64 X.f0, .slice A1 X.f1.f0.length c1, .slice A2 X.f1.f1.length c2, .int .i64 X.f2.f0, .slice A4 X.f2.f1.length c4, .int .i64 X.f2.f2, .int .i64 X.f2.f3, .int .i64 X.f2.f4, .int .i64 X.f2.f5, .slice A9 X.f2.f6.length c9] 84))
  have HB0 := Aside0.mk hb0
  have FC := Aside0.mk (fun (W : World) (b : Nat) (hW : Below w.heap.size w W) (hb : W.heap[b]? = some (.cells #[.int .i64 X.f0, .slice A1 X.f1.f0.length c1, .slice A2 X.f1.f1.length c2, .int .i64 X.f2.f0, .slice A4 X.f2.f1.length c4, .int .i64 X.f2.f2, .int .i64 X.f2.f3, .int .i64 X.f2.f4, .int .i64 X.f2.f5, .slice A9 X.f2.f6.length c9] 84 (0, 0))) => trunnionlaw32_few.calls k (some ⟨b, 0, none⟩) 1 [X] 1 r W (one_C hb (k84.K_below hW hK)) (by simp) hf)
  have AC := Aside0.mk (awake_calls (w.alloc (.cells #[.int .i64 X.f0, .slice A1 X.f1.f0.length c1, .slice A2 X.f1.f1.length c2, .int .i64 X.f2.f0, .slice A4 X.f2.f1.length c4, .int .i64 X.f2.f2, .int .i64 X.f2.f3, .int .i64 X.f2.f4, .int .i64 X.f2.f5, .slice A9 X.f2.f6.length c9] 84)))
  have hu84 := Try.underlying84
  have hu77 := Try.underlying77
  have hu82 := Try.underlying82
  clear hK hf hin hb0
  go_enter Try.func7, Try.ntmps7
  go_wp2_with (first
    | (go_at_call 21
       (with_reducible refine AC.out.mono ?_)
       rintro e w1 ⟨rfl, hb⟩
       have HB1 := Aside0.mk (below_then HB0.out HB0.out.size hb)
       have BX1 := Aside0.mk ((hb.block _ (blk_lt BX.out)).trans BX.out)
       have x0 := (blk_cell BX1.out 0).trans rfl
       have x1 := (blk_cell BX1.out 1).trans rfl
       have x2 := (blk_cell BX1.out 2).trans rfl
       have x3 := (blk_cell BX1.out 3).trans rfl
       have x4 := (blk_cell BX1.out 4).trans rfl
       have x5 := (blk_cell BX1.out 5).trans rfl
       have x6 := (blk_cell BX1.out 6).trans rfl
       have x7 := (blk_cell BX1.out 7).trans rfl
       have x8 := (blk_cell BX1.out 8).trans rfl
       have x9 := (blk_cell BX1.out 9).trans rfl
       clear hb)
    | fail)
  have hba := below_alloc (Below.refl w1.heap.size w1) (.cells #[.int .i64 X.f0, .slice A1 X.f1.f0.length c1, .slice A2 X.f1.f1.length c2, .int .i64 X.f2.f0, .slice A4 X.f2.f1.length c4, .int .i64 X.f2.f2, .int .i64 X.f2.f3, .int .i64 X.f2.f4, .int .i64 X.f2.f5, .slice A9 X.f2.f6.length c9] 84)
  have HB2 := Aside0.mk (below_then HB1.out HB1.out.size hba)
  refine (FC.out _ _ HB2.out (heap_alloc_new w1 _)).mono ?_
  rintro e w2 ⟨rfl, hb⟩
  have HB3 := Aside0.mk (below_then HB2.out HB2.out.size hb)
  have BX2 := Aside0.mk ((hb.block _ (by have := (hba.block _ (blk_lt BX1.out)).trans BX1.out; exact blk_lt this)).trans ((hba.block _ (blk_lt BX1.out)).trans BX1.out))
  clear hb hba FC AC x0 x1 x2 x3 x4 x5 x6 x7 x8 x9
  cases r with
  | false =>
    go_wp2
    go_ret
    exact ⟨rfl, HB3.out⟩
  | true =>
    go_wp2
    have hbb := below_alloc (Below.refl w2.heap.size w2) (.cells #[.slice none 0 0, .slice none 0 0, .slice none 0 0, .bool false] 103)
    have hbc := hbb.alloc hbb.size (.cells #[.pointer none, .pointer (some ⟨w2.heap.size, 0, none⟩)] 67)
    have hk1 := (Below.heap_alloc (w2.alloc (.cells #[.slice none 0 0, .slice none 0 0, .slice none 0 0, .bool false] 103)) (.cells #[.pointer none, .pointer (some ⟨w2.heap.size, 0, none⟩)] 67) w2.heap.size (by rw [World.size_alloc]; omega)).trans (heap_alloc_new w2 _)
    have hk2 := heap_alloc_new (w2.alloc (.cells #[.slice none 0 0, .slice none 0 0, .slice none 0 0, .bool false] 103)) (.cells #[.pointer none, .pointer (some ⟨w2.heap.size, 0, none⟩)] 67)
    rw [World.size_alloc] at hk2
    have HB4 := Aside0.mk (below_then HB3.out HB3.out.size hbc)
    have BX3 := Aside0.mk ((hbc.block _ (blk_lt BX2.out)).trans BX2.out)
    generalize hW0 : (w2.alloc (.cells #[.slice none 0 0, .slice none 0 0, .slice none 0 0, .bool false] 103)).alloc (.cells #[.pointer none, .pointer (some ⟨w2.heap.size, 0, none⟩)] 67) = W0 at hk1 hk2 HB4 BX3
    obtain ⟨ad, had⟩ : ∃ ad : Addr, ad = ⟨w2.heap.size + 1, 0, none⟩ := ⟨_, rfl⟩
    have PT := Aside0.mk (show ∀ i : Nat, i < 2 → ∃ v, W0.cell? (ad.add i) = some v ∧ Off W0 v from fun i hi => by
      subst had
      match i, hi with
      | 0, _ => exact ⟨_, (blk_cell hk2 0).trans rfl, .inl rfl⟩
      | 1, _ => exact ⟨_, (blk_cell hk2 1).trans rfl, .inr ⟨_, rfl, hk1⟩⟩)
    rw [← had]
    clear hbb hbc hk1 hk2 hW0 had HB3 BX2 HB1 BX1 BX HB0
    go_loopg [18] 2 (fun d v18 w' => ∃ i : Nat, v18 = .int .i64 (i : Int) ∧ Aside0 (i + d = 2) ∧ Aside0 (Below W0.heap.size W0 w'))
    case atStart => exact ⟨0, rfl, ⟨by omega⟩, ⟨Below.refl _ _⟩⟩
    case round =>
      obtain ⟨i, rfl, HD, HF⟩ := hrel
      have hd := HD.out
      cases gk with
      | zero =>
        have e1 : decide ((i : Int) < 2) = false := decide_eq_false (by omega)
        have e2 : decide (i < 2) = false := decide_eq_false (by omega)
        clear hd
        go_wp2
        go_ret
        exact ⟨rfl, below_then HB4.out HB4.out.size HF.out⟩
      | succ d =>
        have hiI : (i : Int) < 2 := by omega
        have hi0 : (0 : Int) ≤ i := by omega
        have e1 : decide ((i : Int) < 2) = true := decide_eq_true (by omega)
        have e2 : decide (i < 2) = true := decide_eq_true (by omega)
        obtain ⟨v, z0', ho⟩ := PT.out i (by omega)
        have z0 := (HF.out.cell (World.block_lt_of_cell? W0 _ z0')).trans z0'
        have hof := ho.below HF.out
        have hbx := (HF.out.block _ (blk_lt BX3.out)).trans BX3.out
        have x1 : wr.cell? ⟨w.heap.size, 1, none⟩ = some (.slice A1 X.f1.f0.length c1) := (blk_cell hbx 1).trans rfl
        have x2 : wr.cell? ⟨w.heap.size, 2, none⟩ = some (.slice A2 X.f1.f1.length c2) := (blk_cell hbx 2).trans rfl
        have FC := Aside0.mk (feed_off wr v hof A1 A2 X.f1.f0.length c1 X.f1.f1.length c2)
        have HOF := Aside0.mk hof
        have HBX := Aside0.mk hbx
        clear hd z0' ho hof hbx
        go_wp2_with (first
          | (go_at_call 24
             (with_reducible refine FC.out.mono ?_)
             rintro e w3 ⟨rfl, hb⟩
             have HB5 := Aside0.mk hb
             have CC := Aside0.mk (clear_off w3 v (HOF.out.below hb))
             have LC := Aside0.mk (left_off w3 v (HOF.out.below hb))
             clear hb)
          | (go_at_call 29
             (with_reducible refine CC.out.mono ?_)
             rintro e w4 ⟨rfl, rfl⟩)
          | (go_at_call 31
             (with_reducible refine LC.out.mono ?_)
             rintro e w5 ⟨rfl, hb⟩
             have HB6 := Aside0.mk (below_then HB5.out HB5.out.size hb)
             clear hb)
          | fail)
        have hb7 := HB6.out.alloc HB6.out.size (.cells #[.slice none 0 0, .slice none 0 0] 77)
        have hl7 := heap_alloc_new w5 (.cells #[.slice none 0 0, .slice none 0 0] 77)
        obtain ⟨W7, hW7⟩ : ∃ W7, W7 = w5.alloc (.cells #[.slice none 0 0, .slice none 0 0] 77) := ⟨_, rfl⟩
        obtain ⟨bl, hbl⟩ : ∃ bl, bl = w5.heap.size := ⟨_, rfl⟩
        rw [← hW7] at hb7 hl7
        rw [← hbl] at hl7
        rw [← hW7, ← hbl]
        clear hW7 hbl
        have HB7 := Aside0.mk hb7
        have HL7 := Aside0.mk hl7
        have hbx := (hb7.block _ (blk_lt HBX.out)).trans HBX.out
        have HBX7 := Aside0.mk hbx
        clear x1 x2 z0
        have x3 := (blk_cell hbx 3).trans rfl
        have x4 := (blk_cell hbx 4).trans rfl
        have x5 := (blk_cell hbx 5).trans rfl
        have x6 := (blk_cell hbx 6).trans rfl
        have x7 := (blk_cell hbx 7).trans rfl
        have x8 := (blk_cell hbx 8).trans rfl
        have x9 := (blk_cell hbx 9).trans rfl
        have l0 := (blk_cell hl7 0).trans rfl
        have l1 := (blk_cell hl7 1).trans rfl
        have DC := Aside0.mk (done_off W7.drew v (HOF.out.below (below_drew hb7)) X.f2.f0 A4 X.f2.f1.length c4 X.f2.f2 X.f2.f3 X.f2.f4 X.f2.f5 A9 X.f2.f6.length c9)
        clear hbx hl7 hb7
        go_region_with (first
          | (go_at_call 26; refine DC.out.mono ?_; rintro e w8 ⟨rfl, hb⟩; have HB8 := Aside0.mk (below_then (below_drew (Below.refl W7.heap.size W7)) (Nat.le_refl _) hb); have m0 := (blk_cell ((HB8.out.block _ (blk_lt HL7.out)).trans HL7.out) 0).trans rfl; have m1 := (blk_cell ((HB8.out.block _ (blk_lt HL7.out)).trans HL7.out) 1).trans rfl; have CC := Aside0.mk (calls_off w8 v (HOF.out.below (below_then HB7.out HB7.out.size HB8.out))); clear hb)
          | (go_at_call 32; refine CC.out.mono ?_; rintro e w9 ⟨rfl, rfl⟩))
        all_goals
          go_wp2
          go_roundg d
          case measure => omega
          case rel => exact ⟨i + 1, by push_cast; rfl, ⟨by have := HD.out; omega⟩, ⟨below_then HF.out HF.out.size (below_then HB7.out HB7.out.size HB8.out)⟩⟩
theorem none_law (w : World) (X : S84) (cs : Array Value) (hK : k84.K w X cs.toList) (hin : X.f1.f0.length ≤ 9223372036854775807 ∧ X.f2.f6.length ≤ 9223372036854775807) : Calls Try.prog 7 #[.agg cs] w (Told w) := by
  have := none_walk w X cs.toList hK hin
  rwa [Array.toArray_toList] at this
end Go.Proofs.Ytkpjdkmggbelfaa.Host
