/- The walk of utf.tell: it hands each character to the closure, as a plain function says. -/
import Derived.Test.YtjhdnlgbboboiaaBase
import Derived.Test.YtjhdnlgbboboiaaPUtfReadsx1
import Derived.Lib.OthersKept
namespace Go.Proofs.Ytjhdnlgbboboiaa.Utf
open Go.RowKit Go.Proofs.YtjhdnlgbboboiaaW.PrintWords Go.Proofs.YtjhdnlgbboboiaaW.PrintLast Go.Proofs.YtjhdnlgbboboiaaW.PrintMore Go.Proofs.Ytjhdnlgbboboiaa.Base
set_option linter.unusedVariables false
set_option linter.unusedSimpArgs false

/-- Each character from a place on: where it begins, the rune, where it ends. -/
def chars (s : ByteArray) : Nat → Nat → List (Nat × Int × Nat)
  | 0, _ => []
  | d + 1, p => if p < s.size then (p, ((Utf8.decode s p).1 : Int), p + (Utf8.decode s p).2) :: chars s d (p + (Utf8.decode s p).2) else []
def okc (s : ByteArray) (p : Nat) (c : Int) : Bool := (PUtfReads.utf_right.f s (p : Int) c).getD false
theorem right_is (s : ByteArray) (p : Nat) (c : Int) (hp : p < s.size) (hs : s.size ≤ 1000000) : PUtfReads.utf_right.f s (p : Int) c = some (okc s p c) := by
  unfold okc PUtfReads.utf_right.f
  have h1 : wrap64 ((s.size : Int) - (p : Int)) = (s.size : Int) - (p : Int) := by unfold wrap64; omega
  have h2 : wrap64 ((p : Int) + 3) = (p : Int) + 3 := by unfold wrap64; omega
  rw [h1, h2]
  split
  · split
    · rw [if_pos (by omega), if_pos (by omega), if_pos (by omega)]
      rfl
    · rfl
  · rfl
theorem decode_pos (s : ByteArray) (p : Nat) : 1 ≤ (Utf8.decode s p).2 := by
  simp only [Utf8.decode]
  repeat' split
  all_goals simp
theorem decode_fit (s : ByteArray) (p : Nat) (hp : p < s.size) : p + (Utf8.decode s p).2 ≤ s.size := by
  simp only [Utf8.decode]
  repeat' split
  all_goals simp_all
  all_goals omega
section
variable {σ : Type}
/-- What tell answers, and what is then left of the closure's state. -/
def tellL (s : ByteArray) (stp : σ → Int → Int → σ) (bl : σ → Int → Int → Bool) : List (Nat × Int × Nat) → σ → Bool × σ
  | [], st => (true, st)
  | (b, c, n) :: r, st => if okc s b c = true then (if bl st c (n : Int) = true then tellL s stp bl r (stp st c (n : Int)) else (true, stp st c (n : Int))) else (false, st)
end
theorem drawn_cell {w w' : World} (h : Drawn0 w w') (k : Nat) : w'.heap[k]? = w.heap[k]? := by
  obtain ⟨n, rfl⟩ := h
  rfl

set_option maxRecDepth 100000 in
set_option maxHeartbeats 2000000 in
theorem tell_calls41 {σ : Type} (St : σ → World → Prop) (stp : σ → Int → Int → σ) (bl : σ → Int → Int → Bool) (B : Nat) (s : ByteArray) (st0 : σ) (q2 q3 q4 q5 : Nat) (w : World) (hB : B ≤ w.heap.size) (hs : s.size ≤ 1000000)
    (h0 : St st0 w) (hst : Aside0 (∀ st W W', St st W → (∀ k, k < w.heap.size → W'.heap[k]? = W.heap[k]?) → St st W'))
    (hcl : Aside0 (∀ st (c nx : Int) W, St st W → 0 ≤ c → c ≤ 2147483647 → 0 ≤ nx → nx ≤ s.size → Calls Try.prog 41 #[.int .i32 c, .int .i64 nx, .pointer (some ⟨q2, 0, none⟩), .pointer (some ⟨q3, 0, none⟩), .pointer (some ⟨q4, 0, none⟩), .pointer (some ⟨q5, 0, none⟩)] W fun e w' => e = .returned (.bool (bl st c nx)) ∧ St (stp st c nx) w' ∧ Below B W w' ∧ ∀ k, w.heap.size ≤ k → k < W.heap.size → w'.heap[k]? = W.heap[k]?)) :
    Calls Try.prog 40 #[.string s, .func (.func 41) #[] #[.pointer (some ⟨q2, 0, none⟩), .pointer (some ⟨q3, 0, none⟩), .pointer (some ⟨q4, 0, none⟩), .pointer (some ⟨q5, 0, none⟩)]] w fun e w' => e = .returned (.bool (tellL s stp bl (chars s s.size 0) st0).1) ∧ St (tellL s stp bl (chars s s.size 0) st0).2 w' ∧ Below B w w' := by
  obtain ⟨R, hR⟩ : ∃ R, R = tellL s stp bl (chars s s.size 0) st0 := ⟨_, rfl⟩
  rw [← hR]
  have HT := Aside0.mk hR.symm
  clear hR
  have H0 := Aside0.mk (hst.out st0 w (w.iter s 0) h0 (fun k hk => Below.heap_alloc w _ k hk))
  have HI := Aside0.mk (World.iter_heap w s 0)
  have HBB := Aside0.mk ((Below.refl B w).alloc hB (.stringIter s 0))
  clear h0
  go_enter Try.func40, Try.ntmps40
  go_wp2
  go_loopg [5, 6] s.size (fun d v5 v6 w' => ∃ (pos : Nat) (st : σ) (b c : Int) (pd : List (Nat × Int × Nat)), v5 = .int .i64 b ∧ v6 = .int .i32 c ∧ Aside0 ((b = -1 ∧ c = 0 ∧ pd = []) ∨ ∃ bn : Nat, b = (bn : Int) ∧ bn < s.size ∧ 0 ≤ c ∧ c ≤ 2147483647 ∧ pd = [(bn, c, pos)]) ∧ Aside0 (s.size ≤ pos + d ∧ pos ≤ s.size) ∧ Aside0 (w'.heap[w.heap.size]? = some (.stringIter s pos)) ∧ Aside0 (St st w') ∧ Aside0 (Below B w w') ∧ Aside0 (tellL s stp bl (pd ++ chars s d pos) st = R))
  case atStart => exact ⟨0, st0, -1, 0, [], rfl, rfl, ⟨.inl ⟨rfl, rfl, rfl⟩⟩, ⟨by omega⟩, HI, H0, HBB, HT⟩
  case round =>
    clear HT H0 HI HBB
    obtain ⟨pos, st, b, c, pd, rfl, rfl, HP, HD, HI, HS, HB, HT⟩ := hrel
    have hlt : w.heap.size < wr.heap.size := (Array.getElem?_eq_some_iff.1 HI.out).1
    have HLT := Aside0.mk hlt
    clear hlt
    by_cases hp : pos < s.size
    · obtain ⟨d, rfl⟩ : ∃ d, gk = d + 1 := ⟨gk - 1, by have := HD.out; omega⟩
      have hT := HT.out
      simp only [chars] at hT
      rw [if_pos hp] at hT
      have dpos := decode_pos s pos
      have dfit := decode_fit s pos hp
      have dle := decode_le s pos
      have hnx : ∀ ty, (Instr.next (.pointer (some ⟨w.heap.size, 0, none⟩)) true ty).run Try.prog wr = _ := fun ty => Go.Lib.run_next_any_at wr w.heap.size s pos ty HI.out hp
      obtain ⟨rr, hrr⟩ : ∃ rr, rr = (Utf8.decode s pos).1 := ⟨_, rfl⟩
      obtain ⟨ww, hww⟩ : ∃ ww, ww = (Utf8.decode s pos).2 := ⟨_, rfl⟩
      rw [← hrr] at hT dle hnx
      rw [← hww] at hT dpos dfit hnx
      clear hrr hww
      have HI1 := Aside0.mk (Go.Lib.iterAt_heap wr w.heap.size s pos (pos + ww) HI.out)
      have HS1 := Aside0.mk (hst.out st wr (wr.iterAt w.heap.size s (pos + ww)) HS.out (fun k hk => Go.Lib.iterAt_other wr w.heap.size k s (pos + ww) (by omega)))
      have HB1 := Aside0.mk (Go.Lib.below_iterAt HB.out hB s (pos + ww))
      have DD := Aside0.mk (show s.size ≤ (pos + ww) + d ∧ pos + ww ≤ s.size from ⟨by have := HD.out; omega, dfit⟩)
      have DR := Aside0.mk (show 0 ≤ (rr : Int) ∧ (rr : Int) ≤ 2147483647 from ⟨by omega, by omega⟩)
      have HT1 := Aside0.mk hT
      have DP := Aside0.mk dpos
      clear hT dpos dfit dle HD HS HB HT
      obtain ⟨W1, hW1⟩ : ∃ W1, W1 = wr.iterAt w.heap.size s (pos + ww) := ⟨_, rfl⟩
      rw [← hW1] at HI1 HS1 HB1 hnx
      clear hW1 HI HLT
      rcases HP.out with ⟨rfl, rfl, rfl⟩ | ⟨bn, rfl, hbn, hc0, hc1, rfl⟩
      · clear HP
        go_wp2
        go_roundg d
        case measure => omega
        case rel => exact ⟨pos + ww, st, (pos : Int), (rr : Int), [(pos, (rr : Int), pos + ww)], rfl, rfl, ⟨.inr ⟨pos, rfl, hp, DR.out.1, DR.out.2, rfl⟩⟩, DD, HI1, HS1, HB1, HT1⟩
      · clear HP
        have hT := HT1.out
        simp only [List.cons_append, List.nil_append, tellL] at hT
        have hr := right_is s bn c hbn hs
        by_cases ho : okc s bn c = true
        · rw [if_pos ho] at hT
          rw [ho] at hr
          by_cases hb : bl st c (pos : Int) = true
          · rw [if_pos hb] at hT
            have HT2 := Aside0.mk hT
            have HR2 := Aside0.mk hr
            clear hT hr ho HT1
            go_wp2_with fail
            refine (PUtfReads.utf_right.calls s (bn : Int) c true W1 HR2.out).mono ?_
            rintro e w2 ⟨rfl, hd⟩
            have HI2 := Aside0.mk ((drawn_cell hd w.heap.size).trans HI1.out)
            have HS2 := Aside0.mk (hst.out st W1 w2 HS1.out (fun k _ => drawn_cell hd k))
            have HB2 := Aside0.mk (HB1.out.trans (hd.below.mono (by have := HB1.out.size; omega)))
            clear hd HI1 HS1 HB1
            go_wp2_with fail
            refine (hcl.out st c (pos : Int) w2 HS2.out hc0 hc1 (by omega) (by omega)).mono ?_
            rintro e w3 ⟨rfl, hs3, hb3, hk3⟩
            have HI3 := Aside0.mk ((hk3 w.heap.size (Nat.le_refl _) (Array.getElem?_eq_some_iff.1 HI2.out).1).trans HI2.out)
            have HS3 := Aside0.mk hs3
            have HB3 := Aside0.mk (HB2.out.trans hb3)
            clear hs3 hb3 hk3 HI2 HS2 HB2
            go_wp2
            go_roundg d
            case measure => omega
            case rel => exact ⟨pos + ww, stp st c (pos : Int), (pos : Int), (rr : Int), [(pos, (rr : Int), pos + ww)], rfl, rfl, ⟨.inr ⟨pos, rfl, hp, DR.out.1, DR.out.2, rfl⟩⟩, DD, HI3, HS3, HB3, HT2⟩
          · rw [if_neg hb] at hT
            have hb' : bl st c (pos : Int) = false := by simpa using hb
            have HT2 := Aside0.mk hT
            have HR2 := Aside0.mk hr
            clear hT hr ho hb HT1
            go_wp2_with fail
            refine (PUtfReads.utf_right.calls s (bn : Int) c true W1 HR2.out).mono ?_
            rintro e w2 ⟨rfl, hd⟩
            have HS2 := Aside0.mk (hst.out st W1 w2 HS1.out (fun k _ => drawn_cell hd k))
            have HB2 := Aside0.mk (HB1.out.trans (hd.below.mono (by have := HB1.out.size; omega)))
            clear hd HI1 HS1 HB1
            go_wp2_with fail
            refine (hcl.out st c (pos : Int) w2 HS2.out hc0 hc1 (by omega) (by omega)).mono ?_
            rintro e w3 ⟨rfl, hs3, hb3, hk3⟩
            have HS3 := Aside0.mk hs3
            have HB3 := Aside0.mk (HB2.out.trans hb3)
            clear hs3 hb3 hk3 HS2 HB2
            go_wp2
            go_ret
            rw [← HT2.out]
            exact ⟨rfl, HS3.out, HB3.out⟩
        · rw [if_neg ho] at hT
          have ho' : okc s bn c = false := by simpa using ho
          rw [ho'] at hr
          have HT2 := Aside0.mk hT
          have HR2 := Aside0.mk hr
          clear hT hr ho ho' HT1
          go_wp2_with fail
          refine (PUtfReads.utf_right.calls s (bn : Int) c false W1 HR2.out).mono ?_
          rintro e w2 ⟨rfl, hd⟩
          have HS2 := Aside0.mk (hst.out st W1 w2 HS1.out (fun k _ => drawn_cell hd k))
          have HB2 := Aside0.mk (HB1.out.trans (hd.below.mono (by have := HB1.out.size; omega)))
          clear hd HI1 HS1 HB1
          go_wp2
          go_ret
          rw [← HT2.out]
          exact ⟨rfl, HS2.out, HB2.out⟩
    · have hpe : pos = s.size := by have := HD.out; omega
      subst hpe
      have hcs : chars s gk s.size = [] := by cases gk <;> simp [chars]
      have hT := HT.out
      rw [hcs, List.append_nil] at hT
      have hnx : ∀ ty, (Instr.next (.pointer (some ⟨w.heap.size, 0, none⟩)) true ty).run Try.prog wr = _ := fun ty => Go.Lib.run_next_end_at wr w.heap.size s s.size ty HI.out hp
      have HT1 := Aside0.mk hT
      clear hT hcs HT HD hp
      rcases HP.out with ⟨rfl, rfl, rfl⟩ | ⟨bn, rfl, hbn, hc0, hc1, rfl⟩
      · clear HP
        go_wp2
        go_ret
        rw [← HT1.out]
        exact ⟨rfl, HS.out, HB.out⟩
      · clear HP
        have hT := HT1.out
        simp only [tellL] at hT
        have hr := right_is s bn c hbn hs
        by_cases ho : okc s bn c = true
        · rw [if_pos ho] at hT
          rw [ho] at hr
          have hT' : (true, stp st c (s.size : Int)) = R := by
            rw [← hT]
            split <;> rfl
          have HT2 := Aside0.mk hT'
          have HR2 := Aside0.mk hr
          clear hT hT' hr ho HT1
          go_wp2_with fail
          refine (PUtfReads.utf_right.calls s (bn : Int) c true wr HR2.out).mono ?_
          rintro e w2 ⟨rfl, hd⟩
          have HS2 := Aside0.mk (hst.out st wr w2 HS.out (fun k _ => drawn_cell hd k))
          have HB2 := Aside0.mk (HB.out.trans (hd.below.mono (by have := HB.out.size; omega)))
          clear hd HI HS HB
          go_wp2_with fail
          refine (hcl.out st c (s.size : Int) w2 HS2.out hc0 hc1 (by omega) (by omega)).mono ?_
          rintro e w3 ⟨rfl, hs3, hb3, hk3⟩
          have HS3 := Aside0.mk hs3
          have HB3 := Aside0.mk (HB2.out.trans hb3)
          clear hs3 hb3 hk3 HS2 HB2
          go_wp2
          go_ret
          rw [← HT2.out]
          exact ⟨rfl, HS3.out, HB3.out⟩
        · rw [if_neg ho] at hT
          have ho' : okc s bn c = false := by simpa using ho
          rw [ho'] at hr
          have HT2 := Aside0.mk hT
          have HR2 := Aside0.mk hr
          clear hT hr ho ho' HT1
          go_wp2_with fail
          refine (PUtfReads.utf_right.calls s (bn : Int) c false wr HR2.out).mono ?_
          rintro e w2 ⟨rfl, hd⟩
          have HS2 := Aside0.mk (hst.out st wr w2 HS.out (fun k _ => drawn_cell hd k))
          have HB2 := Aside0.mk (HB.out.trans (hd.below.mono (by have := HB.out.size; omega)))
          clear hd HI HS HB
          go_wp2
          go_ret
          rw [← HT2.out]
          exact ⟨rfl, HS2.out, HB2.out⟩

set_option maxRecDepth 100000 in
set_option maxHeartbeats 2000000 in
theorem tell_calls42 {σ : Type} (St : σ → World → Prop) (stp : σ → Int → Int → σ) (bl : σ → Int → Int → Bool) (B : Nat) (s : ByteArray) (st0 : σ) (q2 : Nat) (w : World) (hB : B ≤ w.heap.size) (hs : s.size ≤ 1000000)
    (h0 : St st0 w) (hst : Aside0 (∀ st W W', St st W → (∀ k, k < w.heap.size → W'.heap[k]? = W.heap[k]?) → St st W'))
    (hcl : Aside0 (∀ st (c nx : Int) W, St st W → 0 ≤ c → c ≤ 2147483647 → 0 ≤ nx → nx ≤ s.size → Calls Try.prog 42 #[.int .i32 c, .int .i64 nx, .pointer (some ⟨q2, 0, none⟩)] W fun e w' => e = .returned (.bool (bl st c nx)) ∧ St (stp st c nx) w' ∧ Below B W w' ∧ ∀ k, w.heap.size ≤ k → k < W.heap.size → w'.heap[k]? = W.heap[k]?)) :
    Calls Try.prog 40 #[.string s, .func (.func 42) #[] #[.pointer (some ⟨q2, 0, none⟩)]] w fun e w' => e = .returned (.bool (tellL s stp bl (chars s s.size 0) st0).1) ∧ St (tellL s stp bl (chars s s.size 0) st0).2 w' ∧ Below B w w' := by
  obtain ⟨R, hR⟩ : ∃ R, R = tellL s stp bl (chars s s.size 0) st0 := ⟨_, rfl⟩
  rw [← hR]
  have HT := Aside0.mk hR.symm
  clear hR
  have H0 := Aside0.mk (hst.out st0 w (w.iter s 0) h0 (fun k hk => Below.heap_alloc w _ k hk))
  have HI := Aside0.mk (World.iter_heap w s 0)
  have HBB := Aside0.mk ((Below.refl B w).alloc hB (.stringIter s 0))
  clear h0
  go_enter Try.func40, Try.ntmps40
  go_wp2
  go_loopg [5, 6] s.size (fun d v5 v6 w' => ∃ (pos : Nat) (st : σ) (b c : Int) (pd : List (Nat × Int × Nat)), v5 = .int .i64 b ∧ v6 = .int .i32 c ∧ Aside0 ((b = -1 ∧ c = 0 ∧ pd = []) ∨ ∃ bn : Nat, b = (bn : Int) ∧ bn < s.size ∧ 0 ≤ c ∧ c ≤ 2147483647 ∧ pd = [(bn, c, pos)]) ∧ Aside0 (s.size ≤ pos + d ∧ pos ≤ s.size) ∧ Aside0 (w'.heap[w.heap.size]? = some (.stringIter s pos)) ∧ Aside0 (St st w') ∧ Aside0 (Below B w w') ∧ Aside0 (tellL s stp bl (pd ++ chars s d pos) st = R))
  case atStart => exact ⟨0, st0, -1, 0, [], rfl, rfl, ⟨.inl ⟨rfl, rfl, rfl⟩⟩, ⟨by omega⟩, HI, H0, HBB, HT⟩
  case round =>
    clear HT H0 HI HBB
    obtain ⟨pos, st, b, c, pd, rfl, rfl, HP, HD, HI, HS, HB, HT⟩ := hrel
    have hlt : w.heap.size < wr.heap.size := (Array.getElem?_eq_some_iff.1 HI.out).1
    have HLT := Aside0.mk hlt
    clear hlt
    by_cases hp : pos < s.size
    · obtain ⟨d, rfl⟩ : ∃ d, gk = d + 1 := ⟨gk - 1, by have := HD.out; omega⟩
      have hT := HT.out
      simp only [chars] at hT
      rw [if_pos hp] at hT
      have dpos := decode_pos s pos
      have dfit := decode_fit s pos hp
      have dle := decode_le s pos
      have hnx : ∀ ty, (Instr.next (.pointer (some ⟨w.heap.size, 0, none⟩)) true ty).run Try.prog wr = _ := fun ty => Go.Lib.run_next_any_at wr w.heap.size s pos ty HI.out hp
      obtain ⟨rr, hrr⟩ : ∃ rr, rr = (Utf8.decode s pos).1 := ⟨_, rfl⟩
      obtain ⟨ww, hww⟩ : ∃ ww, ww = (Utf8.decode s pos).2 := ⟨_, rfl⟩
      rw [← hrr] at hT dle hnx
      rw [← hww] at hT dpos dfit hnx
      clear hrr hww
      have HI1 := Aside0.mk (Go.Lib.iterAt_heap wr w.heap.size s pos (pos + ww) HI.out)
      have HS1 := Aside0.mk (hst.out st wr (wr.iterAt w.heap.size s (pos + ww)) HS.out (fun k hk => Go.Lib.iterAt_other wr w.heap.size k s (pos + ww) (by omega)))
      have HB1 := Aside0.mk (Go.Lib.below_iterAt HB.out hB s (pos + ww))
      have DD := Aside0.mk (show s.size ≤ (pos + ww) + d ∧ pos + ww ≤ s.size from ⟨by have := HD.out; omega, dfit⟩)
      have DR := Aside0.mk (show 0 ≤ (rr : Int) ∧ (rr : Int) ≤ 2147483647 from ⟨by omega, by omega⟩)
      have HT1 := Aside0.mk hT
      have DP := Aside0.mk dpos
      clear hT dpos dfit dle HD HS HB HT
      obtain ⟨W1, hW1⟩ : ∃ W1, W1 = wr.iterAt w.heap.size s (pos + ww) := ⟨_, rfl⟩
      rw [← hW1] at HI1 HS1 HB1 hnx
      clear hW1 HI HLT
      rcases HP.out with ⟨rfl, rfl, rfl⟩ | ⟨bn, rfl, hbn, hc0, hc1, rfl⟩
      · clear HP
        go_wp2
        go_roundg d
        case measure => omega
        case rel => exact ⟨pos + ww, st, (pos : Int), (rr : Int), [(pos, (rr : Int), pos + ww)], rfl, rfl, ⟨.inr ⟨pos, rfl, hp, DR.out.1, DR.out.2, rfl⟩⟩, DD, HI1, HS1, HB1, HT1⟩
      · clear HP
        have hT := HT1.out
        simp only [List.cons_append, List.nil_append, tellL] at hT
        have hr := right_is s bn c hbn hs
        by_cases ho : okc s bn c = true
        · rw [if_pos ho] at hT
          rw [ho] at hr
          by_cases hb : bl st c (pos : Int) = true
          · rw [if_pos hb] at hT
            have HT2 := Aside0.mk hT
            have HR2 := Aside0.mk hr
            clear hT hr ho HT1
            go_wp2_with fail
            refine (PUtfReads.utf_right.calls s (bn : Int) c true W1 HR2.out).mono ?_
            rintro e w2 ⟨rfl, hd⟩
            have HI2 := Aside0.mk ((drawn_cell hd w.heap.size).trans HI1.out)
            have HS2 := Aside0.mk (hst.out st W1 w2 HS1.out (fun k _ => drawn_cell hd k))
            have HB2 := Aside0.mk (HB1.out.trans (hd.below.mono (by have := HB1.out.size; omega)))
            clear hd HI1 HS1 HB1
            go_wp2_with fail
            refine (hcl.out st c (pos : Int) w2 HS2.out hc0 hc1 (by omega) (by omega)).mono ?_
            rintro e w3 ⟨rfl, hs3, hb3, hk3⟩
            have HI3 := Aside0.mk ((hk3 w.heap.size (Nat.le_refl _) (Array.getElem?_eq_some_iff.1 HI2.out).1).trans HI2.out)
            have HS3 := Aside0.mk hs3
            have HB3 := Aside0.mk (HB2.out.trans hb3)
            clear hs3 hb3 hk3 HI2 HS2 HB2
            go_wp2
            go_roundg d
            case measure => omega
            case rel => exact ⟨pos + ww, stp st c (pos : Int), (pos : Int), (rr : Int), [(pos, (rr : Int), pos + ww)], rfl, rfl, ⟨.inr ⟨pos, rfl, hp, DR.out.1, DR.out.2, rfl⟩⟩, DD, HI3, HS3, HB3, HT2⟩
          · rw [if_neg hb] at hT
            have hb' : bl st c (pos : Int) = false := by simpa using hb
            have HT2 := Aside0.mk hT
            have HR2 := Aside0.mk hr
            clear hT hr ho hb HT1
            go_wp2_with fail
            refine (PUtfReads.utf_right.calls s (bn : Int) c true W1 HR2.out).mono ?_
            rintro e w2 ⟨rfl, hd⟩
            have HS2 := Aside0.mk (hst.out st W1 w2 HS1.out (fun k _ => drawn_cell hd k))
            have HB2 := Aside0.mk (HB1.out.trans (hd.below.mono (by have := HB1.out.size; omega)))
            clear hd HI1 HS1 HB1
            go_wp2_with fail
            refine (hcl.out st c (pos : Int) w2 HS2.out hc0 hc1 (by omega) (by omega)).mono ?_
            rintro e w3 ⟨rfl, hs3, hb3, hk3⟩
            have HS3 := Aside0.mk hs3
            have HB3 := Aside0.mk (HB2.out.trans hb3)
            clear hs3 hb3 hk3 HS2 HB2
            go_wp2
            go_ret
            rw [← HT2.out]
            exact ⟨rfl, HS3.out, HB3.out⟩
        · rw [if_neg ho] at hT
          have ho' : okc s bn c = false := by simpa using ho
          rw [ho'] at hr
          have HT2 := Aside0.mk hT
          have HR2 := Aside0.mk hr
          clear hT hr ho ho' HT1
          go_wp2_with fail
          refine (PUtfReads.utf_right.calls s (bn : Int) c false W1 HR2.out).mono ?_
          rintro e w2 ⟨rfl, hd⟩
          have HS2 := Aside0.mk (hst.out st W1 w2 HS1.out (fun k _ => drawn_cell hd k))
          have HB2 := Aside0.mk (HB1.out.trans (hd.below.mono (by have := HB1.out.size; omega)))
          clear hd HI1 HS1 HB1
          go_wp2
          go_ret
          rw [← HT2.out]
          exact ⟨rfl, HS2.out, HB2.out⟩
    · have hpe : pos = s.size := by have := HD.out; omega
      subst hpe
      have hcs : chars s gk s.size = [] := by cases gk <;> simp [chars]
      have hT := HT.out
      rw [hcs, List.append_nil] at hT
      have hnx : ∀ ty, (Instr.next (.pointer (some ⟨w.heap.size, 0, none⟩)) true ty).run Try.prog wr = _ := fun ty => Go.Lib.run_next_end_at wr w.heap.size s s.size ty HI.out hp
      have HT1 := Aside0.mk hT
      clear hT hcs HT HD hp
      rcases HP.out with ⟨rfl, rfl, rfl⟩ | ⟨bn, rfl, hbn, hc0, hc1, rfl⟩
      · clear HP
        go_wp2
        go_ret
        rw [← HT1.out]
        exact ⟨rfl, HS.out, HB.out⟩
      · clear HP
        have hT := HT1.out
        simp only [tellL] at hT
        have hr := right_is s bn c hbn hs
        by_cases ho : okc s bn c = true
        · rw [if_pos ho] at hT
          rw [ho] at hr
          have hT' : (true, stp st c (s.size : Int)) = R := by
            rw [← hT]
            split <;> rfl
          have HT2 := Aside0.mk hT'
          have HR2 := Aside0.mk hr
          clear hT hT' hr ho HT1
          go_wp2_with fail
          refine (PUtfReads.utf_right.calls s (bn : Int) c true wr HR2.out).mono ?_
          rintro e w2 ⟨rfl, hd⟩
          have HS2 := Aside0.mk (hst.out st wr w2 HS.out (fun k _ => drawn_cell hd k))
          have HB2 := Aside0.mk (HB.out.trans (hd.below.mono (by have := HB.out.size; omega)))
          clear hd HI HS HB
          go_wp2_with fail
          refine (hcl.out st c (s.size : Int) w2 HS2.out hc0 hc1 (by omega) (by omega)).mono ?_
          rintro e w3 ⟨rfl, hs3, hb3, hk3⟩
          have HS3 := Aside0.mk hs3
          have HB3 := Aside0.mk (HB2.out.trans hb3)
          clear hs3 hb3 hk3 HS2 HB2
          go_wp2
          go_ret
          rw [← HT2.out]
          exact ⟨rfl, HS3.out, HB3.out⟩
        · rw [if_neg ho] at hT
          have ho' : okc s bn c = false := by simpa using ho
          rw [ho'] at hr
          have HT2 := Aside0.mk hT
          have HR2 := Aside0.mk hr
          clear hT hr ho ho' HT1
          go_wp2_with fail
          refine (PUtfReads.utf_right.calls s (bn : Int) c false wr HR2.out).mono ?_
          rintro e w2 ⟨rfl, hd⟩
          have HS2 := Aside0.mk (hst.out st wr w2 HS.out (fun k _ => drawn_cell hd k))
          have HB2 := Aside0.mk (HB.out.trans (hd.below.mono (by have := HB.out.size; omega)))
          clear hd HI HS HB
          go_wp2
          go_ret
          rw [← HT2.out]
          exact ⟨rfl, HS2.out, HB2.out⟩
end Go.Proofs.Ytjhdnlgbboboiaa.Utf
