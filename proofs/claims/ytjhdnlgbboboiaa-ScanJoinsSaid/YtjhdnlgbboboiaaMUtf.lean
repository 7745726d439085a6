/- The walk of utf.tell: it hands each character to the closure, as a plain function says. -/
import Derived.Test.YtjhdnlgbboboiaaBase
import Derived.Test.YtjhdnlgbboboiaaPUtfReadsx1
import Derived.Lib.OthersKept
import Derived.Test.YtjhdnlgbboboiaaMLeb
import Derived.Lib.Strings
namespace Go.Proofs.Ytjhdnlgbboboiaa.Utf
open Go.RowKit Go.Proofs.YtjhdnlgbboboiaaW.PrintWords Go.Proofs.YtjhdnlgbboboiaaW.PrintLast Go.Proofs.YtjhdnlgbboboiaaW.PrintMore Go.Proofs.Ytjhdnlgbboboiaa.Base
set_option linter.unusedVariables false
set_option linter.unusedSimpArgs false

/-- Each character from a place on: where it begins, the rune, where it ends. -/
def chars (s : ByteArray) : Nat → Nat → List (Nat × Int × Nat)
  | 0, _ => []
  | d + 1, p => if p < s.size then (p, ((Utf8.decode s p).1 : Int), p + (Utf8.decode s p).2) :: chars s d (p + (Utf8.decode s p).2) else []
def okc (s : ByteArray) (p : Nat) (c : Int) : Bool := (PUtfReads.utf_right.f s (p : Int) c).getD false
theorem right_is (s : ByteArray) (p : Nat) (c : Int) (hp : p < s.size) (hs : s.size ≤ 1000000) : PUtfReads.utf_right.f s (p : Int) c = some (okc s p c) := by
  unfold okc PUtfReads.utf_right.f
  have h1 : wrap64 ((s.size : Int) - (p : Int)) = (s.size : Int) - (p : Int) := by unfold wrap64; omega
  have h2 : wrap64 ((p : Int) + 3) = (p : Int) + 3 := by unfold wrap64; omega
  rw [h1, h2]
  split
  · split
    · rw [if_pos (by omega), if_pos (by omega), if_pos (by omega)]
      rfl
    · rfl
  · rfl
theorem decode_pos (s : ByteArray) (p : Nat) : 1 ≤ (Utf8.decode s p).2 := by
  simp only [Utf8.decode]
  repeat' split
  all_goals simp
theorem decode_fit (s : ByteArray) (p : Nat) (hp : p < s.size) : p + (Utf8.decode s p).2 ≤ s.size := by
  simp only [Utf8.decode]
  repeat' split
  all_goals simp_all
  all_goals omega
section
variable {σ : Type}
/-- What tell answers, and what is then left of the closure's state. -/
def tellL (s : ByteArray) (stp : σ → Int → Int → σ) (bl : σ → Int → Int → Bool) : List (Nat × Int × Nat) → σ → Bool × σ
  | [], st => (true, st)
  | (b, c, n) :: r, st => if okc s b c = true then (if bl st c (n : Int) = true then tellL s stp bl r (stp st c (n : Int)) else (true, stp st c (n : Int))) else (false, st)
end
theorem drawn_cell {w w' : World} (h : Drawn0 w w') (k : Nat) : w'.heap[k]? = w.heap[k]? := by
  obtain ⟨n, rfl⟩ := h
  rfl

set_option maxRecDepth 100000 in
set_option maxHeartbeats 2000000 in
theorem tell_calls41 {σ : Type} (St : σ → World → Prop) (stp : σ → Int → Int → σ) (bl : σ → Int → Int → Bool) (B : Nat) (s : ByteArray) (st0 : σ) (q2 q3 q4 q5 : Nat) (w : World) (hB : B ≤ w.heap.size) (hs : s.size ≤ 1000000)
    (h0 : St st0 w) (hst : Aside0 (∀ st W W', St st W → (∀ k, k < w.heap.size → W'.heap[k]? = W.heap[k]?) → St st W'))
    (hcl : Aside0 (∀ st (c nx : Int) W, St st W → 0 ≤ c → c ≤ 2147483647 → 0 ≤ nx → nx ≤ s.size → Calls Try.prog 41 #[.int .i32 c, .int .i64 nx, .pointer (some ⟨q2, 0, none⟩), .pointer (some ⟨q3, 0, none⟩), .pointer (some ⟨q4, 0, none⟩), .pointer (some ⟨q5, 0, none⟩)] W fun e w' => e = .returned (.bool (bl st c nx)) ∧ St (stp st c nx) w' ∧ Below B W w' ∧ ∀ k, w.heap.size ≤ k → k < W.heap.size → w'.heap[k]? = W.heap[k]?)) :
    Calls Try.prog 40 #[.string s, .func (.func 41) #[] #[.pointer (some ⟨q2, 0, none⟩), .pointer (some ⟨q3, 0, none⟩), .pointer (some ⟨q4, 0, none⟩), .pointer (some ⟨q5, 0, none⟩)]] w fun e w' => e = .returned (.bool (tellL s stp bl (chars s s.size 0) st0).1) ∧ St (tellL s stp bl (chars s s.size 0) st0).2 w' ∧ Below B w w' := by
  obtain ⟨R, hR⟩ : ∃ R, R = tellL s stp bl (chars s s.size 0) st0 := ⟨_, rfl⟩
  rw [← hR]
  have HT := Aside0.mk hR.symm
  clear hR
  have H0 := Aside0.mk (hst.out st0 w (w.iter s 0) h0 (fun k hk => Below.heap_alloc w _ k hk))
  have HI := Aside0.mk (World.iter_heap w s 0)
  have HBB := Aside0.mk ((Below.refl B w).alloc hB (.stringIter s 0))
  clear h0
  go_enter Try.func40, Try.ntmps40
  go_wp2
  go_loopg [5, 6] s.size (fun d v5 v6 w' => ∃ (pos : Nat) (st : σ) (b c : Int) (pd : List (Nat × Int × Nat)), v5 = .int .i64 b ∧ v6 = .int .i32 c ∧ Aside0 ((b = -1 ∧ c = 0 ∧ pd = []) ∨ ∃ bn : Nat, b = (bn : Int) ∧ bn < s.size ∧ 0 ≤ c ∧ c ≤ 2147483647 ∧ pd = [(bn, c, pos)]) ∧ Aside0 (s.size ≤ pos + d ∧ pos ≤ s.size) ∧ Aside0 (w'.heap[w.heap.size]? = some (.stringIter s pos)) ∧ Aside0 (St st w') ∧ Aside0 (Below B w w') ∧ Aside0 (tellL s stp bl (pd ++ chars s d pos) st = R))
  case atStart => exact ⟨0, st0, -1, 0, [], rfl, rfl, ⟨.inl ⟨rfl, rfl, rfl⟩⟩, ⟨by omega⟩, HI, H0, HBB, HT⟩
  case round =>
    clear HT H0 HI HBB
    obtain ⟨pos, st, b, c, pd, rfl, rfl, HP, HD, HI, HS, HB, HT⟩ := hrel
    have hlt : w.heap.size < wr.heap.size := (Array.getElem?_eq_some_iff.1 HI.out).1
    have HLT := Aside0.mk hlt
    clear hlt
    by_cases hp : pos < s.size
    · obtain ⟨d, rfl⟩ : ∃ d, gk = d + 1 := ⟨gk - 1, by have := HD.out; omega⟩
      have hT := HT.out
      simp only [chars] at hT
      rw [if_pos hp] at hT
      have dpos := decode_pos s pos
      have dfit := decode_fit s pos hp
      have dle := decode_le s pos
      have hnx : ∀ ty, (Instr.next (.pointer (some ⟨w.heap.size, 0, none⟩)) true ty).run Try.prog wr = _ := fun ty => Go.Lib.run_next_any_at wr w.heap.size s pos ty HI.out hp
      obtain ⟨rr, hrr⟩ : ∃ rr, rr = (Utf8.decode s pos).1 := ⟨_, rfl⟩
      obtain ⟨ww, hww⟩ : ∃ ww, ww = (Utf8.decode s pos).2 := ⟨_, rfl⟩
      rw [← hrr] at hT dle hnx
      rw [← hww] at hT dpos dfit hnx
      clear hrr hww
      have HI1 := Aside0.mk (Go.Lib.iterAt_heap wr w.heap.size s pos (pos + ww) HI.out)
      have HS1 := Aside0.mk (hst.out st wr (wr.iterAt w.heap.size s (pos + ww)) HS.out (fun k hk => Go.Lib.iterAt_other wr w.heap.size k s (pos + ww) (by omega)))
      have HB1 := Aside0.mk (Go.Lib.below_iterAt HB.out hB s (pos + ww))
      have DD := Aside0.mk (show s.size ≤ (pos + ww) + d ∧ pos + ww ≤ s.size from ⟨by have := HD.out; omega, dfit⟩)
      have DR := Aside0.mk (show 0 ≤ (rr : Int) ∧ (rr : Int) ≤ 2147483647 from ⟨by omega, by omega⟩)
      have HT1 := Aside0.mk hT
      have DP := Aside0.mk dpos
      clear hT dpos dfit dle HD HS HB HT
      obtain ⟨W1, hW1⟩ : ∃ W1, W1 = wr.iterAt w.heap.size s (pos + ww) := ⟨_, rfl⟩
      rw [← hW1] at HI1 HS1 HB1 hnx
      clear hW1 HI HLT
      rcases HP.out with ⟨rfl, rfl, rfl⟩ | ⟨bn, rfl, hbn, hc0, hc1, rfl⟩
      · clear HP
        go_wp2
        go_roundg d
        case measure => omega
        case rel => exact ⟨pos + ww, st, (pos : Int), (rr : Int), [(pos, (rr : Int), pos + ww)], rfl, rfl, ⟨.inr ⟨pos, rfl, hp, DR.out.1, DR.out.2, rfl⟩⟩, DD, HI1, HS1, HB1, HT1⟩
      · clear HP
        have hT := HT1.out
        simp only [List.cons_append, List.nil_append, tellL] at hT
        have hr := right_is s bn c hbn hs
        by_cases ho : okc s bn c = true
        · rw [if_pos ho] at hT
          rw [ho] at hr
          by_cases hb : bl st c (pos : Int) = true
          · rw [if_pos hb] at hT
            have HT2 := Aside0.mk hT
            have HR2 := Aside0.mk hr
            clear hT hr ho HT1
            go_wp2_with fail
            refine (PUtfReads.utf_right.calls s (bn : Int) c true W1 HR2.out).mono ?_
            rintro e w2 ⟨rfl, hd⟩
            have HI2 := Aside0.mk ((drawn_cell hd w.heap.size).trans HI1.out)
            have HS2 := Aside0.mk (hst.out st W1 w2 HS1.out (fun k _ => drawn_cell hd k))
            have HB2 := Aside0.mk (HB1.out.trans (hd.below.mono (by have := HB1.out.size; omega)))
            clear hd HI1 HS1 HB1
            go_wp2_with fail
            refine (hcl.out st c (pos : Int) w2 HS2.out hc0 hc1 (by omega) (by omega)).mono ?_
            rintro e w3 ⟨rfl, hs3, hb3, hk3⟩
            have HI3 := Aside0.mk ((hk3 w.heap.size (Nat.le_refl _) (Array.getElem?_eq_some_iff.1 HI2.out).1).trans HI2.out)
            have HS3 := Aside0.mk hs3
            have HB3 := Aside0.mk (HB2.out.trans hb3)
            clear hs3 hb3 hk3 HI2 HS2 HB2
            go_wp2
            go_roundg d
            case measure => omega
            case rel => exact ⟨pos + ww, stp st c (pos : Int), (pos : Int), (rr : Int), [(pos, (rr : Int), pos + ww)], rfl, rfl, ⟨.inr ⟨pos, rfl, hp, DR.out.1, DR.out.2, rfl⟩⟩, DD, HI3, HS3, HB3, HT2⟩
          · rw [if_neg hb] at hT
            have hb' : bl st c (pos : Int) = false := by simpa using hb
            have HT2 := Aside0.mk hT
            have HR2 := Aside0.mk hr
            clear hT hr ho hb HT1
            go_wp2_with fail
            refine (PUtfReads.utf_right.calls s (bn : Int) c true W1 HR2.out).mono ?_
            rintro e w2 ⟨rfl, hd⟩
            have HS2 := Aside0.mk (hst.out st W1 w2 HS1.out (fun k _ => drawn_cell hd k))
            have HB2 := Aside0.mk (HB1.out.trans (hd.below.mono (by have := HB1.out.size; omega)))
            clear hd HI1 HS1 HB1
            go_wp2_with fail
            refine (hcl.out st c (pos : Int) w2 HS2.out hc0 hc1 (by omega) (by omega)).mono ?_
            rintro e w3 ⟨rfl, hs3, hb3, hk3⟩
            have HS3 := Aside0.mk hs3
            have HB3 := Aside0.mk (HB2.out.trans hb3)
            clear hs3 hb3 hk3 HS2 HB2
            go_wp2
            go_ret
            rw [← HT2.out]
            exact ⟨rfl, HS3.out, HB3.out⟩
        · rw [if_neg ho] at hT
          have ho' : okc s bn c = false := by simpa using ho
          rw [ho'] at hr
          have HT2 := Aside0.mk hT
          have HR2 := Aside0.mk hr
          clear hT hr ho ho' HT1
          go_wp2_with fail
          refine (PUtfReads.utf_right.calls s (bn : Int) c false W1 HR2.out).mono ?_
          rintro e w2 ⟨rfl, hd⟩
          have HS2 := Aside0.mk (hst.out st W1 w2 HS1.out (fun k _ => drawn_cell hd k))
          have HB2 := Aside0.mk (HB1.out.trans (hd.below.mono (by have := HB1.out.size; omega)))
          clear hd HI1 HS1 HB1
          go_wp2
          go_ret
          rw [← HT2.out]
          exact ⟨rfl, HS2.out, HB2.out⟩
    · have hpe : pos = s.size := by have := HD.out; omega
      subst hpe
      have hcs : chars s gk s.size = [] := by cases gk <;> simp [chars]
      have hT := HT.out
      rw [hcs, List.append_nil] at hT
      have hnx : ∀ ty, (Instr.next (.pointer (some ⟨w.heap.size, 0, none⟩)) true ty).run Try.prog wr = _ := fun ty => Go.Lib.run_next_end_at wr w.heap.size s s.size ty HI.out hp
      have HT1 := Aside0.mk hT
      clear hT hcs HT HD hp
      rcases HP.out with ⟨rfl, rfl, rfl⟩ | ⟨bn, rfl, hbn, hc0, hc1, rfl⟩
      · clear HP
        go_wp2
        go_ret
        rw [← HT1.out]
        exact ⟨rfl, HS.out, HB.out⟩
      · clear HP
        have hT := HT1.out
        simp only [tellL] at hT
        have hr := right_is s bn c hbn hs
        by_cases ho : okc s bn c = true
        · rw [if_pos ho] at hT
          rw [ho] at hr
          have hT' : (true, stp st c (s.size : Int)) = R := by
            rw [← hT]
            split <;> rfl
          have HT2 := Aside0.mk hT'
          have HR2 := Aside0.mk hr
          clear hT hT' hr ho HT1
          go_wp2_with fail
          refine (PUtfReads.utf_right.calls s (bn : Int) c true wr HR2.out).mono ?_
          rintro e w2 ⟨rfl, hd⟩
          have HS2 := Aside0.mk (hst.out st wr w2 HS.out (fun k _ => drawn_cell hd k))
          have HB2 := Aside0.mk (HB.out.trans (hd.below.mono (by have := HB.out.size; omega)))
          clear hd HI HS HB
          go_wp2_with fail
          refine (hcl.out st c (s.size : Int) w2 HS2.out hc0 hc1 (by omega) (by omega)).mono ?_
          rintro e w3 ⟨rfl, hs3, hb3, hk3⟩
          have HS3 := Aside0.mk hs3
          have HB3 := Aside0.mk (HB2.out.trans hb3)
          clear hs3 hb3 hk3 HS2 HB2
          go_wp2
          go_ret
          rw [← HT2.out]
          exact ⟨rfl, HS3.out, HB3.out⟩
        · rw [if_neg ho] at hT
          have ho' : okc s bn c = false := by simpa using ho
          rw [ho'] at hr
          have HT2 := Aside0.mk hT
          have HR2 := Aside0.mk hr
          clear hT hr ho ho' HT1
          go_wp2_with fail
          refine (PUtfReads.utf_right.calls s (bn : Int) c false wr HR2.out).mono ?_
          rintro e w2 ⟨rfl, hd⟩
          have HS2 := Aside0.mk (hst.out st wr w2 HS.out (fun k _ => drawn_cell hd k))
          have HB2 := Aside0.mk (HB.out.trans (hd.below.mono (by have := HB.out.size; omega)))
          clear hd HI HS HB
          go_wp2
          go_ret
          rw [← HT2.out]
          exact ⟨rfl, HS2.out, HB2.out⟩

set_option maxRecDepth 100000 in
set_option maxHeartbeats 2000000 in
theorem tell_calls42 {σ : Type} (St : σ → World → Prop) (stp : σ → Int → Int → σ) (bl : σ → Int → Int → Bool) (B : Nat) (s : ByteArray) (st0 : σ) (q2 : Nat) (w : World) (hB : B ≤ w.heap.size) (hs : s.size ≤ 1000000)
    (h0 : St st0 w) (hst : Aside0 (∀ st W W', St st W → (∀ k, k < w.heap.size → W'.heap[k]? = W.heap[k]?) → St st W'))
    (hcl : Aside0 (∀ st (c nx : Int) W, St st W → 0 ≤ c → c ≤ 2147483647 → 0 ≤ nx → nx ≤ s.size → Calls Try.prog 42 #[.int .i32 c, .int .i64 nx, .pointer (some ⟨q2, 0, none⟩)] W fun e w' => e = .returned (.bool (bl st c nx)) ∧ St (stp st c nx) w' ∧ Below B W w' ∧ ∀ k, w.heap.size ≤ k → k < W.heap.size → w'.heap[k]? = W.heap[k]?)) :
    Calls Try.prog 40 #[.string s, .func (.func 42) #[] #[.pointer (some ⟨q2, 0, none⟩)]] w fun e w' => e = .returned (.bool (tellL s stp bl (chars s s.size 0) st0).1) ∧ St (tellL s stp bl (chars s s.size 0) st0).2 w' ∧ Below B w w' := by
  obtain ⟨R, hR⟩ : ∃ R, R = tellL s stp bl (chars s s.size 0) st0 := ⟨_, rfl⟩
  rw [← hR]
  have HT := Aside0.mk hR.symm
  clear hR
  have H0 := Aside0.mk (hst.out st0 w (w.iter s 0) h0 (fun k hk => Below.heap_alloc w _ k hk))
  have HI := Aside0.mk (World.iter_heap w s 0)
  have HBB := Aside0.mk ((Below.refl B w).alloc hB (.stringIter s 0))
  clear h0
  go_enter Try.func40, Try.ntmps40
  go_wp2
  go_loopg [5, 6] s.size (fun d v5 v6 w' => ∃ (pos : Nat) (st : σ) (b c : Int) (pd : List (Nat × Int × Nat)), v5 = .int .i64 b ∧ v6 = .int .i32 c ∧ Aside0 ((b = -1 ∧ c = 0 ∧ pd = []) ∨ ∃ bn : Nat, b = (bn : Int) ∧ bn < s.size ∧ 0 ≤ c ∧ c ≤ 2147483647 ∧ pd = [(bn, c, pos)]) ∧ Aside0 (s.size ≤ pos + d ∧ pos ≤ s.size) ∧ Aside0 (w'.heap[w.heap.size]? = some (.stringIter s pos)) ∧ Aside0 (St st w') ∧ Aside0 (Below B w w') ∧ Aside0 (tellL s stp bl (pd ++ chars s d pos) st = R))
  case atStart => exact ⟨0, st0, -1, 0, [], rfl, rfl, ⟨.inl ⟨rfl, rfl, rfl⟩⟩, ⟨by omega⟩, HI, H0, HBB, HT⟩
  case round =>
    clear HT H0 HI HBB
    obtain ⟨pos, st, b, c, pd, rfl, rfl, HP, HD, HI, HS, HB, HT⟩ := hrel
    have hlt : w.heap.size < wr.heap.size := (Array.getElem?_eq_some_iff.1 HI.out).1
    have HLT := Aside0.mk hlt
    clear hlt
    by_cases hp : pos < s.size
    · obtain ⟨d, rfl⟩ : ∃ d, gk = d + 1 := ⟨gk - 1, by have := HD.out; omega⟩
      have hT := HT.out
      simp only [chars] at hT
      rw [if_pos hp] at hT
      have dpos := decode_pos s pos
      have dfit := decode_fit s pos hp
      have dle := decode_le s pos
      have hnx : ∀ ty, (Instr.next (.pointer (some ⟨w.heap.size, 0, none⟩)) true ty).run Try.prog wr = _ := fun ty => Go.Lib.run_next_any_at wr w.heap.size s pos ty HI.out hp
      obtain ⟨rr, hrr⟩ : ∃ rr, rr = (Utf8.decode s pos).1 := ⟨_, rfl⟩
      obtain ⟨ww, hww⟩ : ∃ ww, ww = (Utf8.decode s pos).2 := ⟨_, rfl⟩
      rw [← hrr] at hT dle hnx
      rw [← hww] at hT dpos dfit hnx
      clear hrr hww
      have HI1 := Aside0.mk (Go.Lib.iterAt_heap wr w.heap.size s pos (pos + ww) HI.out)
      have HS1 := Aside0.mk (hst.out st wr (wr.iterAt w.heap.size s (pos + ww)) HS.out (fun k hk => Go.Lib.iterAt_other wr w.heap.size k s (pos + ww) (by omega)))
      have HB1 := Aside0.mk (Go.Lib.below_iterAt HB.out hB s (pos + ww))
      have DD := Aside0.mk (show s.size ≤ (pos + ww) + d ∧ pos + ww ≤ s.size from ⟨by have := HD.out; omega, dfit⟩)
      have DR := Aside0.mk (show 0 ≤ (rr : Int) ∧ (rr : Int) ≤ 2147483647 from ⟨by omega, by omega⟩)
      have HT1 := Aside0.mk hT
      have DP := Aside0.mk dpos
      clear hT dpos dfit dle HD HS HB HT
      obtain ⟨W1, hW1⟩ : ∃ W1, W1 = wr.iterAt w.heap.size s (pos + ww) := ⟨_, rfl⟩
      rw [← hW1] at HI1 HS1 HB1 hnx
      clear hW1 HI HLT
      rcases HP.out with ⟨rfl, rfl, rfl⟩ | ⟨bn, rfl, hbn, hc0, hc1, rfl⟩
      · clear HP
        go_wp2
        go_roundg d
        case measure => omega
        case rel => exact ⟨pos + ww, st, (pos : Int), (rr : Int), [(pos, (rr : Int), pos + ww)], rfl, rfl, ⟨.inr ⟨pos, rfl, hp, DR.out.1, DR.out.2, rfl⟩⟩, DD, HI1, HS1, HB1, HT1⟩
      · clear HP
        have hT := HT1.out
        simp only [List.cons_append, List.nil_append, tellL] at hT
        have hr := right_is s bn c hbn hs
        by_cases ho : okc s bn c = true
        · rw [if_pos ho] at hT
          rw [ho] at hr
          by_cases hb : bl st c (pos : Int) = true
          · rw [if_pos hb] at hT
            have HT2 := Aside0.mk hT
            have HR2 := Aside0.mk hr
            clear hT hr ho HT1
            go_wp2_with fail
            refine (PUtfReads.utf_right.calls s (bn : Int) c true W1 HR2.out).mono ?_
            rintro e w2 ⟨rfl, hd⟩
            have HI2 := Aside0.mk ((drawn_cell hd w.heap.size).trans HI1.out)
            have HS2 := Aside0.mk (hst.out st W1 w2 HS1.out (fun k _ => drawn_cell hd k))
            have HB2 := Aside0.mk (HB1.out.trans (hd.below.mono (by have := HB1.out.size; omega)))
            clear hd HI1 HS1 HB1
            go_wp2_with fail
            refine (hcl.out st c (pos : Int) w2 HS2.out hc0 hc1 (by omega) (by omega)).mono ?_
            rintro e w3 ⟨rfl, hs3, hb3, hk3⟩
            have HI3 := Aside0.mk ((hk3 w.heap.size (Nat.le_refl _) (Array.getElem?_eq_some_iff.1 HI2.out).1).trans HI2.out)
            have HS3 := Aside0.mk hs3
            have HB3 := Aside0.mk (HB2.out.trans hb3)
            clear hs3 hb3 hk3 HI2 HS2 HB2
            go_wp2
            go_roundg d
            case measure => omega
            case rel => exact ⟨pos + ww, stp st c (pos : Int), (pos : Int), (rr : Int), [(pos, (rr : Int), pos + ww)], rfl, rfl, ⟨.inr ⟨pos, rfl, hp, DR.out.1, DR.out.2, rfl⟩⟩, DD, HI3, HS3, HB3, HT2⟩
          · rw [if_neg hb] at hT
            have hb' : bl st c (pos : Int) = false := by simpa using hb
            have HT2 := Aside0.mk hT
            have HR2 := Aside0.mk hr
            clear hT hr ho hb HT1
            go_wp2_with fail
            refine (PUtfReads.utf_right.calls s (bn : Int) c true W1 HR2.out).mono ?_
            rintro e w2 ⟨rfl, hd⟩
            have HS2 := Aside0.mk (hst.out st W1 w2 HS1.out (fun k _ => drawn_cell hd k))
            have HB2 := Aside0.mk (HB1.out.trans (hd.below.mono (by have := HB1.out.size; omega)))
            clear hd HI1 HS1 HB1
            go_wp2_with fail
            refine (hcl.out st c (pos : Int) w2 HS2.out hc0 hc1 (by omega) (by omega)).mono ?_
            rintro e w3 ⟨rfl, hs3, hb3, hk3⟩
            have HS3 := Aside0.mk hs3
            have HB3 := Aside0.mk (HB2.out.trans hb3)
            clear hs3 hb3 hk3 HS2 HB2
            go_wp2
            go_ret
            rw [← HT2.out]
            exact ⟨rfl, HS3.out, HB3.out⟩
        · rw [if_neg ho] at hT
          have ho' : okc s bn c = false := by simpa using ho
          rw [ho'] at hr
          have HT2 := Aside0.mk hT
          have HR2 := Aside0.mk hr
          clear hT hr ho ho' HT1
          go_wp2_with fail
          refine (PUtfReads.utf_right.calls s (bn : Int) c false W1 HR2.out).mono ?_
          rintro e w2 ⟨rfl, hd⟩
          have HS2 := Aside0.mk (hst.out st W1 w2 HS1.out (fun k _ => drawn_cell hd k))
          have HB2 := Aside0.mk (HB1.out.trans (hd.below.mono (by have := HB1.out.size; omega)))
          clear hd HI1 HS1 HB1
          go_wp2
          go_ret
          rw [← HT2.out]
          exact ⟨rfl, HS2.out, HB2.out⟩
    · have hpe : pos = s.size := by have := HD.out; omega
      subst hpe
      have hcs : chars s gk s.size = [] := by cases gk <;> simp [chars]
      have hT := HT.out
      rw [hcs, List.append_nil] at hT
      have hnx : ∀ ty, (Instr.next (.pointer (some ⟨w.heap.size, 0, none⟩)) true ty).run Try.prog wr = _ := fun ty => Go.Lib.run_next_end_at wr w.heap.size s s.size ty HI.out hp
      have HT1 := Aside0.mk hT
      clear hT hcs HT HD hp
      rcases HP.out with ⟨rfl, rfl, rfl⟩ | ⟨bn, rfl, hbn, hc0, hc1, rfl⟩
      · clear HP
        go_wp2
        go_ret
        rw [← HT1.out]
        exact ⟨rfl, HS.out, HB.out⟩
      · clear HP
        have hT := HT1.out
        simp only [tellL] at hT
        have hr := right_is s bn c hbn hs
        by_cases ho : okc s bn c = true
        · rw [if_pos ho] at hT
          rw [ho] at hr
          have hT' : (true, stp st c (s.size : Int)) = R := by
            rw [← hT]
            split <;> rfl
          have HT2 := Aside0.mk hT'
          have HR2 := Aside0.mk hr
          clear hT hT' hr ho HT1
          go_wp2_with fail
          refine (PUtfReads.utf_right.calls s (bn : Int) c true wr HR2.out).mono ?_
          rintro e w2 ⟨rfl, hd⟩
          have HS2 := Aside0.mk (hst.out st wr w2 HS.out (fun k _ => drawn_cell hd k))
          have HB2 := Aside0.mk (HB.out.trans (hd.below.mono (by have := HB.out.size; omega)))
          clear hd HI HS HB
          go_wp2_with fail
          refine (hcl.out st c (s.size : Int) w2 HS2.out hc0 hc1 (by omega) (by omega)).mono ?_
          rintro e w3 ⟨rfl, hs3, hb3, hk3⟩
          have HS3 := Aside0.mk hs3
          have HB3 := Aside0.mk (HB2.out.trans hb3)
          clear hs3 hb3 hk3 HS2 HB2
          go_wp2
          go_ret
          rw [← HT2.out]
          exact ⟨rfl, HS3.out, HB3.out⟩
        · rw [if_neg ho] at hT
          have ho' : okc s bn c = false := by simpa using ho
          rw [ho'] at hr
          have HT2 := Aside0.mk hT
          have HR2 := Aside0.mk hr
          clear hT hr ho ho' HT1
          go_wp2_with fail
          refine (PUtfReads.utf_right.calls s (bn : Int) c false wr HR2.out).mono ?_
          rintro e w2 ⟨rfl, hd⟩
          have HS2 := Aside0.mk (hst.out st wr w2 HS.out (fun k _ => drawn_cell hd k))
          have HB2 := Aside0.mk (HB.out.trans (hd.below.mono (by have := HB.out.size; omega)))
          clear hd HI HS HB
          go_wp2
          go_ret
          rw [← HT2.out]
          exact ⟨rfl, HS2.out, HB2.out⟩
end Go.Proofs.Ytjhdnlgbboboiaa.Utf

/- The walks of utf.Count and utf.Next: each returns what a plain function over the bytes says. -/
namespace Go.Proofs.Ytjhdnlgbboboiaa.Utf
open Go.RowKit Go.Proofs.YtjhdnlgbboboiaaW.PrintWords Go.Proofs.YtjhdnlgbboboiaaW.PrintLast Go.Proofs.YtjhdnlgbboboiaaW.PrintMore Go.Proofs.Ytjhdnlgbboboiaa.Base
set_option linter.unusedVariables false
set_option linter.unusedSimpArgs false

def Cell1 (w : World) (q : Nat) (t : TypeId) (v : Value) : Prop := w.heap[q]? = some (.cells #[v] t (0, 0))
theorem Cell1.c {w : World} {q : Nat} {t : TypeId} {v : Value} (h : Cell1 w q t v) : w.cell? ⟨q, 0, none⟩ = some v := by unfold Cell1 at h; simp [World.cell?, h]
theorem Cell1.f {w : World} {q : Nat} {t : TypeId} {v : Value} (h : Cell1 w q t v) : w.frozen? ⟨q, 0, none⟩ = false := by unfold Cell1 at h; simp [World.frozen?, h]
theorem Cell1.s {w : World} {q : Nat} {t : TypeId} {v : Value} (h : Cell1 w q t v) (u : Value) : Cell1 (w.setCell ⟨q, 0, none⟩ u) q t u := blk_put h 0 u rfl
theorem Cell1.far {w : World} {q p : Nat} {t : TypeId} {v : Value} (h : Cell1 w q t v) (hp : q ≠ p) (u : Value) : Cell1 (w.setCell ⟨p, 0, none⟩ u) q t v := blk_far h hp u
theorem Cell1.same {w w' : World} {q : Nat} {t : TypeId} {v : Value} (h : Cell1 w q t v) (he : w'.heap[q]? = w.heap[q]?) : Cell1 w' q t v := he.trans h
theorem set_other {w : World} {q k : Nat} (h : k ≠ q) (u : Value) : (w.setCell ⟨q, 0, none⟩ u).heap[k]? = w.heap[k]? := Below.heap_setCell w ⟨q, 0, none⟩ u k h
set_option maxRecDepth 100000 in
theorem countEach (q : Nat) (n c nx : Int) (W : World) (h : Cell1 W q 3 (.int .i64 n)) :
    Calls Try.prog 42 #[.int .i32 c, .int .i64 nx, .pointer (some ⟨q, 0, none⟩)] W fun e w' => e = .returned (.bool true) ∧ w' = W.setCell ⟨q, 0, none⟩ (.int .i64 (wrap64 (n + 1))) := by
  have h0 := h.c
  have h1 := h.f
  clear h
  go_enter Try.func42, Try.ntmps42
  go_wp2
  go_ret
  exact ⟨rfl, rfl⟩
def countStp (n : Int) (c nx : Int) : Int := wrap64 (n + 1)
def countBl (n : Int) (c nx : Int) : Bool := true
def countT (s : ByteArray) : Bool × Int := tellL s countStp countBl (chars s s.size 0) 0
def countV (r : Bool × Int) : Value := .tuple #[.int .i64 (if r.1 = true then r.2 else 0), .bool r.1]
set_option maxRecDepth 100000 in
set_option maxHeartbeats 1000000 in
theorem Count_calls (A : Option Addr) (c : Nat) (l : List Int) (w : World) (hl : l.length ≤ 1000000) (hr0 : Kd.C (Kd.int .u8) w A l.length l) :
    Calls Try.prog 18 #[.slice A l.length c] w fun e w' => e = .returned (countV (countT (strOfNums l))) ∧ Below w.heap.size w w' := by
  have hcv : ∀ o, (convert 22 9 (.slice A l.length c)).run Try.prog (w.alloc o) = .ok (.string (strOfNums l)) (w.alloc o) := fun o => Kd.C_string Try.underlying22 Try.underlying5 Try.underlying9 (Kd.C_below hr0 ((Below.refl w.heap.size w).alloc (Nat.le_refl _) o))
  have W1 : Cell1 (w.alloc (.cells #[.int .i64 0] 3)) w.heap.size 3 (.int .i64 0) := heap_alloc_new w _
  have HT := tell_calls42 (fun n W => Cell1 W w.heap.size 3 (.int .i64 n)) countStp countBl w.heap.size (strOfNums l) 0 w.heap.size (w.alloc (.cells #[.int .i64 0] 3)) (by simp) (by rw [strOfNums_size]; exact hl) W1
    ⟨fun st W W' h hk => h.same (hk _ (by simp))⟩
    ⟨fun st c nx W h _ _ _ _ => (countEach w.heap.size st c nx W h).mono fun e w' ⟨he, hw⟩ => by
      subst hw
      exact ⟨he, h.s _, bset (Below.refl _ _) (Nat.le_refl _) 0 _, fun k hk _ => set_other (by simp at hk; omega) _⟩⟩
  have HTT := Aside0.mk HT
  clear HT W1 hr0
  obtain ⟨R, hR⟩ : ∃ R, R = countT (strOfNums l) := ⟨_, rfl⟩
  rw [← hR]
  unfold countT at hR
  rw [← hR] at HTT
  clear hR
  obtain ⟨ok, n⟩ := R
  have HB := Aside0.mk (Below.refl w.heap.size w)
  cases ok with
  | true =>
    go_enter Try.func18, Try.ntmps18
    go_wp2_with fail
    refine HTT.out.mono ?_
    rintro e w1 ⟨rfl, hc, hb⟩
    have HC := Aside0.mk hc
    have hbb := (below_alloc (Below.refl w.heap.size w) (.cells #[.int .i64 0] 3)).trans hb
    have HB1 := Aside0.mk hbb
    have c0 := hc.c
    have c1 := hc.f
    clear hc hb hbb
    go_wp2
    have c2 := (HC.out.s (.int .i64 n)).c
    refine bodyPost_ret (v := countV (true, n)) (by simp [results, Try.results18, go_sem, c2, countV]) rfl ?_
    exact ⟨rfl, bset HB1.out (Nat.le_refl _) 0 _⟩
  | false =>
    go_enter Try.func18, Try.ntmps18
    go_wp2_with fail
    refine HTT.out.mono ?_
    rintro e w1 ⟨rfl, hc, hb⟩
    have HC := Aside0.mk hc
    have hbb := (below_alloc (Below.refl w.heap.size w) (.cells #[.int .i64 0] 3)).trans hb
    have HB1 := Aside0.mk hbb
    have c0 := hc.c
    have c1 := hc.f
    clear hc hb hbb
    go_wp2
    have c2 := (HC.out.s (.int .i64 0)).c
    refine bodyPost_ret (v := countV (false, n)) (by simp [results, Try.results18, go_sem, c2, countV]) rfl ?_
    exact ⟨rfl, bset HB1.out (Nat.le_refl _) 0 _⟩
end Go.Proofs.Ytjhdnlgbboboiaa.Utf

/- The walk of utf.Next: it returns what a plain function over the bytes says. -/
namespace Go.Proofs.Ytjhdnlgbboboiaa.Utf
open Go.RowKit Go.Proofs.YtjhdnlgbboboiaaW.PrintWords Go.Proofs.YtjhdnlgbboboiaaW.PrintLast Go.Proofs.YtjhdnlgbboboiaaW.PrintMore Go.Proofs.Ytjhdnlgbboboiaa.Base
attribute [local go_sem] max2_int min2_int max_two min_two max_three min_three max_four min_four   -- for this text's walks alone
set_option linter.unusedVariables false
set_option linter.unusedSimpArgs false

/-- The four captured variables: the place, the rune, where it ends, whether there is one. -/
structure Four (q : Nat) (a : Int) (st : Int × Int × Bool) (w : World) : Prop where
  a0 : Cell1 w q 3 (.int .i64 a)
  a1 : Cell1 w (q + 1) 21 (.int .i32 st.1)
  a2 : Cell1 w (q + 1 + 1) 3 (.int .i64 st.2.1)
  a3 : Cell1 w (q + 1 + 1 + 1) 4 (.bool st.2.2)
theorem Four.same {q : Nat} {a : Int} {st : Int × Int × Bool} {w w' : World} (h : Four q a st w) (hk : ∀ k, k < q + 4 → w'.heap[k]? = w.heap[k]?) : Four q a st w' :=
  ⟨h.a0.same (hk _ (by omega)), h.a1.same (hk _ (by omega)), h.a2.same (hk _ (by omega)), h.a3.same (hk _ (by omega))⟩
theorem Four.put {q : Nat} {a : Int} {st : Int × Int × Bool} {w : World} (h : Four q a st w) (x y : Int) (z : Bool) : Four q a (x, y, z) (((w.setCell ⟨q + 1, 0, none⟩ (.int .i32 x)).setCell ⟨q + 1 + 1, 0, none⟩ (.int .i64 y)).setCell ⟨q + 1 + 1 + 1, 0, none⟩ (.bool z)) :=
  ⟨((h.a0.far (by omega) _).far (by omega) _).far (by omega) _, ((h.a1.s _).far (by omega) _).far (by omega) _, ((h.a2.far (by omega) _).s _).far (by omega) _, ((h.a3.far (by omega) _).far (by omega) _).s _⟩
theorem four_other {q k : Nat} (w : World) (x y z : Value) (h : k ≤ q ∨ q + 4 ≤ k) : (((w.setCell ⟨q + 1, 0, none⟩ x).setCell ⟨q + 1 + 1, 0, none⟩ y).setCell ⟨q + 1 + 1 + 1, 0, none⟩ z).heap[k]? = w.heap[k]? := by
  rw [set_other (by omega), set_other (by omega), set_other (by omega)]
theorem four_below {B q : Nat} {w W : World} (h : Below B w W) (hB : B ≤ q) (x y z : Value) : Below B w (((W.setCell ⟨q + 1, 0, none⟩ x).setCell ⟨q + 1 + 1, 0, none⟩ y).setCell ⟨q + 1 + 1 + 1, 0, none⟩ z) :=
  bset (bset (bset h (by omega) _ _) (by omega) _ _) (by omega) _ _
def NextPost (q : Nat) (a : Int) (st : Int × Int × Bool) (W : World) (e : Ending) (w' : World) : Prop := e = .returned (.bool false) ∧ Four q a st w' ∧ Below q W w' ∧ ∀ k, q + 4 ≤ k → k < W.heap.size → w'.heap[k]? = W.heap[k]?
set_option maxRecDepth 100000 in
set_option maxHeartbeats 1000000 in
theorem nextEach (q : Nat) (a : Int) (st : Int × Int × Bool) (c nx : Int) (W : World) (h : Four q a st W) :
    Calls Try.prog 41 #[.int .i32 c, .int .i64 nx, .pointer (some ⟨q, 0, none⟩), .pointer (some ⟨q + 1, 0, none⟩), .pointer (some ⟨q + 1 + 1, 0, none⟩), .pointer (some ⟨q + 1 + 1 + 1, 0, none⟩)] W (NextPost q a (c, wrap64 (a + nx), true) W) := by
  have h0 := h.a0.c
  have h1 := h.a1.c
  have h2 := h.a2.c
  have h3 := h.a3.c
  have f1 := h.a1.f
  have f2 := h.a2.f
  have f3 := h.a3.f
  have fin : ∀ w', (w' = (((W.setCell ⟨q + 1, 0, none⟩ (.int .i32 c)).setCell ⟨q + 1 + 1, 0, none⟩ (.int .i64 (wrap64 (a + nx)))).setCell ⟨q + 1 + 1 + 1, 0, none⟩ (.bool true)).drew) → NextPost q a (c, wrap64 (a + nx), true) W (.returned (.bool false)) w' := by
    rintro w' rfl
    exact ⟨rfl, (h.put _ _ _).same (fun _ _ => rfl), (four_below (Below.refl _ _) (Nat.le_refl _) _ _ _).drew, fun k hk _ => four_other W _ _ _ (.inr hk)⟩
  have FIN := Aside0.mk fin
  clear h fin
  go_enter Try.func41, Try.ntmps41
  go_wp2
  go_region
  all_goals go_wp2
  all_goals
    go_ret
    exact FIN.out _ rfl
def nextStp (a : Int) (st : Int × Int × Bool) (c nx : Int) : Int × Int × Bool := (c, wrap64 (a + nx), true)
def nextBl (st : Int × Int × Bool) (c nx : Int) : Bool := false
def nextT (s : ByteArray) (a : Int) : Int × Int × Bool := (tellL s (nextStp a) nextBl (chars s s.size 0) (0, 0, false)).2
def nextV (r : Int × Int × Bool) : Value := .tuple #[.int .i32 r.1, .int .i64 r.2.1, .bool r.2.2]
def nextF (l : List Int) (a : Int) : Int × Int × Bool := if a < 0 ∨ a ≥ l.length then (0, 0, false) else nextT (strOfNums ((l.drop a.toNat).take 5)) a
def NextEnd (w : World) (r : Int × Int × Bool) (e : Ending) (w' : World) : Prop := e = .returned (nextV r) ∧ Below w.heap.size w w'
set_option maxRecDepth 100000 in
set_option maxHeartbeats 1000000 in
theorem Next_none (A : Option Addr) (c : Nat) (l : List Int) (a : Int) (w : World) (h : a < 0 ∨ a ≥ l.length) :
    Calls Try.prog 16 #[.slice A l.length c, .int .i64 a] w (NextEnd w (nextF l a)) := by
  have e : nextF l a = (0, 0, false) := if_pos h
  rw [e]
  clear e
  by_cases c1 : a < 0
  · have d1 : decide (a < 0) = true := decide_eq_true c1
    clear h
    go_enter Try.func16, Try.ntmps16
    go_wp2
    refine bodyPost_ret (v := nextV (0, 0, false)) (by simp [results, Try.results16, go_sem, nextV]) rfl ?_
    refine ⟨rfl, ?_⟩
    repeat (first | (with_reducible exact Below.refl _ _) | (with_reducible apply below_alloc))
  · have d1 : decide (a < 0) = false := decide_eq_false c1
    have c2 : (l.length : Int) ≤ a := by omega
    have d2 : decide ((l.length : Int) ≤ a) = true := decide_eq_true c2
    clear h
    go_enter Try.func16, Try.ntmps16
    go_wp2
    refine bodyPost_ret (v := nextV (0, 0, false)) (by simp [results, Try.results16, go_sem, nextV]) rfl ?_
    refine ⟨rfl, ?_⟩
    repeat (first | (with_reducible exact Below.refl _ _) | (with_reducible apply below_alloc))
theorem alloc_other {w : World} {k : Nat} (o : Obj) (h : k < w.heap.size) : (w.alloc o).heap[k]? = w.heap[k]? := Below.heap_alloc w o k h
theorem Four.new (w : World) (a : Int) : Four w.heap.size a (0, 0, false) ((((w.alloc (.cells #[.int .i64 a] 3)).alloc (.cells #[.int .i32 0] 21)).alloc (.cells #[.int .i64 0] 3)).alloc (.cells #[.bool false] 4)) := by
  have n0 := heap_alloc_new w (.cells #[.int .i64 a] 3)
  have n1 := heap_alloc_new (w.alloc (.cells #[.int .i64 a] 3)) (.cells #[.int .i32 0] 21)
  have n2 := heap_alloc_new ((w.alloc (.cells #[.int .i64 a] 3)).alloc (.cells #[.int .i32 0] 21)) (.cells #[.int .i64 0] 3)
  have n3 := heap_alloc_new (((w.alloc (.cells #[.int .i64 a] 3)).alloc (.cells #[.int .i32 0] 21)).alloc (.cells #[.int .i64 0] 3)) (.cells #[.bool false] 4)
  simp only [World.size_alloc] at n1 n2 n3
  refine ⟨?_, ?_, ?_, n3⟩
  · exact ((alloc_other _ (by simp only [World.size_alloc]; omega)).trans ((alloc_other _ (by simp only [World.size_alloc]; omega)).trans (alloc_other _ (by simp only [World.size_alloc]; omega)))).trans n0
  · exact ((alloc_other _ (by simp only [World.size_alloc]; omega)).trans (alloc_other _ (by simp only [World.size_alloc]; omega))).trans n1
  · exact (alloc_other _ (by simp only [World.size_alloc]; omega)).trans n2
theorem four_world {w W : World} {a : Int} (hW : W = ((((w.alloc (.cells #[.int .i64 a] 3)).alloc (.cells #[.int .i32 0] 21)).alloc (.cells #[.int .i64 0] 3)).alloc (.cells #[.bool false] 4))) : Below w.heap.size w W ∧ W.heap.size = w.heap.size + 4 ∧ Four w.heap.size a (0, 0, false) W := by
  subst hW
  refine ⟨?_, by simp, Four.new w a⟩
  repeat (first | (with_reducible exact Below.refl _ _) | (with_reducible apply below_alloc))
theorem mid_C (A : Option Addr) (c : Nat) (l : List Int) (a : Int) (w : World) (a0 : 0 ≤ a) (a1 : a < l.length) (hc0 : l.length ≤ c) (hr0 : Kd.C (Kd.int .u8) w A l.length l) :
    Kd.C (Kd.int .u8) w (A.map fun x => x.add a.toNat) ((l.drop a.toNat).take 5).length ((l.drop a.toNat).take 5) := by
  have h := Kd.C_drop (c := c) hr0 (show a.toNat ≤ l.length by omega) hc0
  have hne : c ≠ a.toNat := by omega
  rw [if_neg hne] at h
  have hz : (Kd.int .u8).sz = 1 := rfl
  rw [hz, Nat.mul_one] at h
  rcases Nat.le_total 5 (l.drop a.toNat).length with h5 | h5
  · exact Kd.C_take h h5
  · rw [List.take_of_length_le h5]
    exact h
set_option maxRecDepth 100000 in
set_option maxHeartbeats 1000000 in
theorem Next_five (A : Option Addr) (c : Nat) (l : List Int) (a : Int) (w : World) (a0 : 0 ≤ a) (a1 : a < l.length) (hl : l.length ≤ 1000000) (hc0 : l.length ≤ c) (hr0 : Kd.C (Kd.int .u8) w A l.length l) (h5 : a + 5 ≤ l.length) :
    Calls Try.prog 16 #[.slice A l.length c, .int .i64 a] w (NextEnd w (nextF l a)) := by
  have e : nextF l a = nextT (strOfNums ((l.drop a.toNat).take 5)) a := if_neg (by omega)
  rw [e]
  clear e
  have hrm := mid_C A c l a w a0 a1 hc0 hr0
  obtain ⟨m, em⟩ : ∃ m, m = (l.drop a.toNat).take 5 := ⟨_, rfl⟩
  have hmm : m.length = (a + 5).toNat - a.toNat := by rw [em, List.length_take, List.length_drop]; omega
  have hml : m.length ≤ 1000000 := by rw [em, List.length_take]; omega
  rw [← em] at hrm ⊢
  clear em hr0
  obtain ⟨W, hW⟩ : ∃ W, W = ((((w.alloc (.cells #[.int .i64 a] 3)).alloc (.cells #[.int .i32 0] 21)).alloc (.cells #[.int .i64 0] 3)).alloc (.cells #[.bool false] 4)) := ⟨_, rfl⟩
  obtain ⟨hB, hsz, hF⟩ := four_world hW
  have hcv : (convert 22 9 (.slice (A.map fun x => x.add a.toNat) m.length (c - a.toNat))).run Try.prog W = .ok (.string (strOfNums m)) W := Kd.C_string Try.underlying22 Try.underlying5 Try.underlying9 (Kd.C_below hrm hB)
  have HT := tell_calls41 (Four w.heap.size a) (nextStp a) nextBl w.heap.size (strOfNums m) (0, 0, false) w.heap.size (w.heap.size + 1) (w.heap.size + 1 + 1) (w.heap.size + 1 + 1 + 1) W (by omega) (by rw [strOfNums_size]; exact hml) hF
    ⟨fun st W' W'' h hk => h.same (fun k hk' => hk k (by omega))⟩
    ⟨fun st c nx W' h _ _ _ _ => (nextEach w.heap.size a st c nx W' h).mono fun e w' ⟨he, hf, hb, hk⟩ => ⟨he, hf, hb, fun k h1 h2 => hk k (by omega) h2⟩⟩
  obtain ⟨R, hR⟩ : ∃ R, R = tellL (strOfNums m) (nextStp a) nextBl (chars (strOfNums m) (strOfNums m).size 0) (0, 0, false) := ⟨_, rfl⟩
  unfold nextT
  rw [← hR] at HT ⊢
  rw [hmm] at hcv
  rw [hW] at hcv HT
  have HTT := Aside0.mk HT
  rw [hW] at hB
  have HB := Aside0.mk hB
  clear HT hR hrm hB hF hsz hW hml hmm
  obtain ⟨ok, r1, r2, r3⟩ := R
  have d1 : decide (a < 0) = false := decide_eq_false (by omega)
  have d2 : decide ((l.length : Int) ≤ a) = false := decide_eq_false (by omega)
  have k2 : 0 ≤ a + 5 := by omega
  have k3 : a + 5 ≤ 2000000 := by omega
  have k4 : (l.length : Int) ≤ (c : Int) := by omega
  clear hl hc0
  have H5 : ¬ (l.length : Int) < a + 5 := by omega
  go_enter Try.func16, Try.ntmps16
  go_wp2_with fail
  refine HTT.out.mono ?_
  rintro e w1 ⟨rfl, hf, hb⟩
  have HF := Aside0.mk hf
  have HB1 := Aside0.mk (HB.out.trans hb)
  have c1 := hf.a1.c
  have c2 := hf.a2.c
  have c3 := hf.a3.c
  have f1 := hf.a1.f
  have f2 := hf.a2.f
  have f3 := hf.a3.f
  clear hf hb
  go_wp2
  go_region
  all_goals go_wp2
  all_goals
    have HF2 := HF.out.put r1 r2 r3
    have g1 := HF2.a1.c
    have g2 := HF2.a2.c
    have g3 := HF2.a3.c
    refine bodyPost_ret (v := nextV (r1, r2, r3)) (by simp [results, Try.results16, go_sem, g1, g2, g3, nextV]) rfl ?_
    exact ⟨rfl, (four_below HB1.out (Nat.le_refl _) _ _ _).drew⟩
set_option maxRecDepth 100000 in
set_option maxHeartbeats 1000000 in
theorem Next_end (A : Option Addr) (c : Nat) (l : List Int) (a : Int) (w : World) (a0 : 0 ≤ a) (a1 : a < l.length) (hl : l.length ≤ 1000000) (hc0 : l.length ≤ c) (hr0 : Kd.C (Kd.int .u8) w A l.length l) (h5 : a + 5 > l.length) :
    Calls Try.prog 16 #[.slice A l.length c, .int .i64 a] w (NextEnd w (nextF l a)) := by
  have e : nextF l a = nextT (strOfNums ((l.drop a.toNat).take 5)) a := if_neg (by omega)
  rw [e]
  clear e
  have hrm := mid_C A c l a w a0 a1 hc0 hr0
  obtain ⟨m, em⟩ : ∃ m, m = (l.drop a.toNat).take 5 := ⟨_, rfl⟩
  have hmm : m.length = l.length - a.toNat := by rw [em, List.length_take, List.length_drop]; omega
  have hml : m.length ≤ 1000000 := by rw [em, List.length_take]; omega
  rw [← em] at hrm ⊢
  clear em hr0
  obtain ⟨W, hW⟩ : ∃ W, W = ((((w.alloc (.cells #[.int .i64 a] 3)).alloc (.cells #[.int .i32 0] 21)).alloc (.cells #[.int .i64 0] 3)).alloc (.cells #[.bool false] 4)) := ⟨_, rfl⟩
  obtain ⟨hB, hsz, hF⟩ := four_world hW
  have hcv : (convert 22 9 (.slice (A.map fun x => x.add a.toNat) m.length (c - a.toNat))).run Try.prog W = .ok (.string (strOfNums m)) W := Kd.C_string Try.underlying22 Try.underlying5 Try.underlying9 (Kd.C_below hrm hB)
  have HT := tell_calls41 (Four w.heap.size a) (nextStp a) nextBl w.heap.size (strOfNums m) (0, 0, false) w.heap.size (w.heap.size + 1) (w.heap.size + 1 + 1) (w.heap.size + 1 + 1 + 1) W (by omega) (by rw [strOfNums_size]; exact hml) hF
    ⟨fun st W' W'' h hk => h.same (fun k hk' => hk k (by omega))⟩
    ⟨fun st c nx W' h _ _ _ _ => (nextEach w.heap.size a st c nx W' h).mono fun e w' ⟨he, hf, hb, hk⟩ => ⟨he, hf, hb, fun k h1 h2 => hk k (by omega) h2⟩⟩
  obtain ⟨R, hR⟩ : ∃ R, R = tellL (strOfNums m) (nextStp a) nextBl (chars (strOfNums m) (strOfNums m).size 0) (0, 0, false) := ⟨_, rfl⟩
  unfold nextT
  rw [← hR] at HT ⊢
  rw [hmm] at hcv
  rw [hW] at hcv HT
  have HTT := Aside0.mk HT
  rw [hW] at hB
  have HB := Aside0.mk hB
  clear HT hR hrm hB hF hsz hW hml hmm
  obtain ⟨ok, r1, r2, r3⟩ := R
  have d1 : decide (a < 0) = false := decide_eq_false (by omega)
  have d2 : decide ((l.length : Int) ≤ a) = false := decide_eq_false (by omega)
  have k2 : 0 ≤ a + 5 := by omega
  have k3 : a + 5 ≤ 2000000 := by omega
  have k4 : (l.length : Int) ≤ (c : Int) := by omega
  clear hl hc0
  have H5 : (l.length : Int) < a + 5 := by omega
  go_enter Try.func16, Try.ntmps16
  go_wp2_with fail
  refine HTT.out.mono ?_
  rintro e w1 ⟨rfl, hf, hb⟩
  have HF := Aside0.mk hf
  have HB1 := Aside0.mk (HB.out.trans hb)
  have c1 := hf.a1.c
  have c2 := hf.a2.c
  have c3 := hf.a3.c
  have f1 := hf.a1.f
  have f2 := hf.a2.f
  have f3 := hf.a3.f
  clear hf hb
  go_wp2
  go_region
  all_goals go_wp2
  all_goals
    have HF2 := HF.out.put r1 r2 r3
    have g1 := HF2.a1.c
    have g2 := HF2.a2.c
    have g3 := HF2.a3.c
    refine bodyPost_ret (v := nextV (r1, r2, r3)) (by simp [results, Try.results16, go_sem, g1, g2, g3, nextV]) rfl ?_
    exact ⟨rfl, (four_below HB1.out (Nat.le_refl _) _ _ _).drew⟩
end Go.Proofs.Ytjhdnlgbboboiaa.Utf

/- The walk of trunnionlaw16.awake: it returns true; and utf's functions as the printer's callers want them. -/
namespace Go.Proofs.Ytjhdnlgbboboiaa.Utf
open Go.RowKit Go.Proofs.YtjhdnlgbboboiaaW.PrintWords Go.Proofs.YtjhdnlgbboboiaaW.PrintLast Go.Proofs.YtjhdnlgbboboiaaW.PrintMore Go.Proofs.Ytjhdnlgbboboiaa.Base
set_option linter.unusedVariables false
set_option linter.unusedSimpArgs false

set_option maxRecDepth 100000 in
theorem Valid_calls (A : Option Addr) (c : Nat) (l : List Int) (w : World) (hl : l.length ≤ 1000000) (hr0 : Kd.C (Kd.int .u8) w A l.length l) :
    Calls Try.prog 20 #[.slice A l.length c] w fun e w' => e = .returned (.bool (countT (strOfNums l)).1) ∧ Below w.heap.size w w' := by
  have H := Aside0.mk (Count_calls A c l w hl hr0)
  obtain ⟨R, hR⟩ : ∃ R, R = countT (strOfNums l) := ⟨_, rfl⟩
  rw [← hR] at H ⊢
  clear hR hr0 hl
  obtain ⟨ok, n⟩ := R
  cases ok
  all_goals
    go_enter Try.func20, Try.ntmps20
    go_wp2_with fail
    refine H.out.mono ?_
    rintro e w1 ⟨rfl, hb⟩
    have HB := Aside0.mk hb
    clear hb
    simp only [countV]
    go_wp2
    go_ret
    exact ⟨rfl, HB.out⟩
theorem Next_calls (A : Option Addr) (c : Nat) (l : List Int) (a : Int) (w : World) (hl : l.length ≤ 1000000) (hc0 : l.length ≤ c) (hr0 : Kd.C (Kd.int .u8) w A l.length l) :
    Calls Try.prog 16 #[.slice A l.length c, .int .i64 a] w (NextEnd w (nextF l a)) := by
  by_cases h : a < 0 ∨ a ≥ l.length
  · exact Next_none A c l a w h
  · by_cases h5 : a + 5 ≤ l.length
    · exact Next_five A c l a w (by omega) (by omega) hl hc0 hr0 h5
    · exact Next_end A c l a w (by omega) (by omega) hl hc0 hr0 (by omega)
theorem aw1 : nextF [226, 130, 172] 0 = (8364, 3, true) := by decide +kernel
theorem aw2 : (countT (strOfNums [192, 128])).1 = false := by decide +kernel
theorem aw3 : (countT (strOfNums [])).1 = true := by decide +kernel
theorem C_nil (w : World) (A : Option Addr) : Kd.C (Kd.int .u8) w A 0 [] := ⟨rfl, by omega, fun h => absurd h (by omega)⟩
set_option maxRecDepth 100000 in
set_option maxHeartbeats 1000000 in
theorem awake_calls (w : World) : Calls Try.prog 15 #[] w fun e w' => e = .returned (.bool true) ∧ Below w.heap.size w w' := by
  have h1 : ∀ W : World, Calls Try.prog 16 #[.slice (some ⟨W.heap.size, 0, none⟩) 3 3, .int .i64 0] (W.alloc (.cells #[.int .u8 226, .int .u8 130, .int .u8 172] 5)) fun e w' => e = .returned (.tuple #[.int .i32 8364, .int .i64 3, .bool true]) ∧ Below W.heap.size W w' := by
    intro W
    refine (Next_calls (some ⟨W.heap.size, 0, none⟩) 3 [226, 130, 172] 0 _ (by decide) (by decide) (C_lit W [226, 130, 172] (by decide))).mono ?_
    rintro e w' ⟨rfl, hb⟩
    rw [aw1]
    exact ⟨rfl, below_then ((Below.refl W.heap.size W).alloc (Nat.le_refl _) _) (by simp) hb⟩
  have h2 : ∀ W : World, Calls Try.prog 20 #[.slice (some ⟨W.heap.size, 0, none⟩) 2 2] (W.alloc (.cells #[.int .u8 192, .int .u8 128] 5)) fun e w' => e = .returned (.bool false) ∧ Below W.heap.size W w' := by
    intro W
    refine (Valid_calls (some ⟨W.heap.size, 0, none⟩) 2 [192, 128] _ (by decide) (C_lit W [192, 128] (by decide))).mono ?_
    rintro e w' ⟨rfl, hb⟩
    rw [aw2]
    exact ⟨rfl, below_then ((Below.refl W.heap.size W).alloc (Nat.le_refl _) _) (by simp) hb⟩
  have h3 : ∀ W : World, Calls Try.prog 20 #[.slice none 0 0] W fun e w' => e = .returned (.bool true) ∧ Below W.heap.size W w' := by
    intro W
    refine (Valid_calls none 0 [] W (by decide) (C_nil W none)).mono ?_
    rintro e w' ⟨rfl, hb⟩
    rw [aw3]
    exact ⟨rfl, hb⟩
  have H1 := Aside0.mk h1
  have H2 := Aside0.mk h2
  have H3 := Aside0.mk h3
  clear h1 h2 h3
  go_enter Try.func15, Try.ntmps15
  go_wp2_with fail
  refine (H1.out w).mono ?_
  rintro e w1 ⟨rfl, hb⟩
  have HB1 := Aside0.mk hb
  clear hb
  go_wp2_with fail
  refine (H2.out _).mono ?_
  rintro e w2 ⟨rfl, hb⟩
  have HB2 := Aside0.mk (below_then HB1.out HB1.out.size hb)
  clear hb
  go_wp2_with fail
  refine (H3.out w2).mono ?_
  rintro e w3 ⟨rfl, hb⟩
  have HB3 := Aside0.mk (below_then HB2.out HB2.out.size hb)
  clear hb
  go_wp2
  go_ret
  exact ⟨rfl, HB3.out⟩
def nextSF (l : List Int) (a : Int) : Option (Int × Int × Bool) := if l.length ≤ 1000000 then some (nextF l a) else none
def countSF (l : List Int) : Option (Int × Bool) := if l.length ≤ 1000000 then some ((if (countT (strOfNums l)).1 = true then (countT (strOfNums l)).2 else 0), (countT (strOfNums l)).1) else none
theorem nextSF_calls (A0 : Option Addr) (c0 : Nat) (l0 : List Int) (a1 : Int) (r1 : Int) (r2 : Int) (r3 : Bool) (w : World) (hr0 : Kd.C (Kd.int .u8) w A0 l0.length l0) (hc0 : l0.length ≤ c0) (h : nextSF l0 a1 = some (r1, r2, r3)) :
    Calls Try.prog 16 #[.slice A0 l0.length c0, .int .i64 a1] w fun e w' => e = .returned (.tuple #[.int .i32 r1, .int .i64 r2, .bool r3]) ∧ Below w.heap.size w w' := by
  unfold nextSF at h
  split at h
  · rename_i hl
    refine (Next_calls A0 c0 l0 a1 w hl hc0 hr0).mono ?_
    rintro e w' ⟨rfl, hb⟩
    rw [Option.some.inj h]
    exact ⟨rfl, hb⟩
  · cases h
theorem countSF_calls (A0 : Option Addr) (c0 : Nat) (l0 : List Int) (r1 : Int) (r2 : Bool) (w : World) (hr0 : Kd.C (Kd.int .u8) w A0 l0.length l0) (hc0 : l0.length ≤ c0) (h : countSF l0 = some (r1, r2)) :
    Calls Try.prog 18 #[.slice A0 l0.length c0] w fun e w' => e = .returned (.tuple #[.int .i64 r1, .bool r2]) ∧ Below w.heap.size w w' := by
  unfold countSF at h
  split at h
  · rename_i hl
    refine (Count_calls A0 c0 l0 w hl hr0).mono ?_
    rintro e w' ⟨rfl, hb⟩
    obtain ⟨rfl, rfl⟩ := Prod.mk.inj (Option.some.inj h)
    exact ⟨rfl, hb⟩
  · cases h
end Go.Proofs.Ytjhdnlgbboboiaa.Utf

/- The plain law of characters: what the model's range over a string says of bytes, as a list of numbers. No program in sight. -/
namespace Go.Proofs.Ytjhdnlgbboboiaa.Utf
open Go.RowKit Go.Proofs.YtjhdnlgbboboiaaW.PrintWords Go.Proofs.Ytjhdnlgbboboiaa.Leb
set_option linter.unusedVariables false

def cont (x : Int) : Prop := 128 ≤ x ∧ x < 192
instance (x : Int) : Decidable (cont x) := by unfold cont; infer_instance
/-- The character of four bytes, of which so many are there, and how many bytes it has. -/
def sDec (x0 x1 x2 x3 : Int) (n : Nat) : Option (Int × Nat) :=
  if x0 < 128 then some (x0, 1)
  else if 192 ≤ x0 ∧ x0 < 224 ∧ 2 ≤ n ∧ cont x1 ∧ 128 ≤ (x0 - 192) * 64 + (x1 - 128) then some ((x0 - 192) * 64 + (x1 - 128), 2)
  else if 224 ≤ x0 ∧ x0 < 240 ∧ 3 ≤ n ∧ cont x1 ∧ cont x2 ∧ 2048 ≤ (x0 - 224) * 4096 + (x1 - 128) * 64 + (x2 - 128) ∧ ((x0 - 224) * 4096 + (x1 - 128) * 64 + (x2 - 128) < 55296 ∨ 57344 ≤ (x0 - 224) * 4096 + (x1 - 128) * 64 + (x2 - 128)) then some ((x0 - 224) * 4096 + (x1 - 128) * 64 + (x2 - 128), 3)
  else if 240 ≤ x0 ∧ x0 < 248 ∧ 4 ≤ n ∧ cont x1 ∧ cont x2 ∧ cont x3 ∧ 65536 ≤ (x0 - 240) * 262144 + (x1 - 128) * 4096 + (x2 - 128) * 64 + (x3 - 128) ∧ (x0 - 240) * 262144 + (x1 - 128) * 4096 + (x2 - 128) * 64 + (x3 - 128) ≤ 1114111 then some ((x0 - 240) * 262144 + (x1 - 128) * 4096 + (x2 - 128) * 64 + (x3 - 128), 4)
  else none
/-- The character at the front of bytes, and how many bytes it has. -/
def uDec (m : List Int) : Option (Int × Nat) := sDec (rd m 0) (rd m 1) (rd m 2) (rd m 3) m.length
theorem rd_range {l : List Int} (hok : okB l) (j : Int) : 0 ≤ rd l j ∧ rd l j < 256 := by
  unfold rd
  rw [List.getD_eq_getElem?_getD]
  by_cases h : j.toNat < l.length
  · rw [List.getElem?_eq_getElem h]
    exact hok _ (List.getElem_mem h)
  · rw [List.getElem?_eq_none (by omega)]
    exact ⟨by decide, by decide⟩
theorem get_num {l : List Int} (hok : okB l) (j : Nat) : (((strOfNums l).get! j).toNat : Int) = rd l (j : Int) := by
  have hr := rd_range hok (j : Int)
  unfold rd at *
  rw [Int.toNat_natCast, List.getD_eq_getElem?_getD] at *
  by_cases h : j < l.length
  · have e : (strOfNums l).get! j = UInt8.ofNat (l[j].toNat) := by
      show (strOfNums l).data[j]! = _
      unfold strOfNums
      rw [getElem!_pos _ _ (by simpa using h)]
      simp
    rw [e]
    rw [List.getElem?_eq_getElem h] at *
    simp only [Option.getD_some] at *
    rw [UInt8.toNat_ofNat']
    omega
  · have e : (strOfNums l).get! j = 0 := by
      show (strOfNums l).data[j]! = _
      unfold strOfNums
      rw [getElem!_neg _ _ (by simpa using h)]
      rfl
    rw [e, List.getElem?_eq_none (by omega)]
    rfl
theorem rd_drop' (l : List Int) (p : Nat) (k : Nat) : rd (l.drop p) (k : Int) = rd l ((p + k : Nat) : Int) := by
  unfold rd
  rw [Int.toNat_natCast, Int.toNat_natCast, List.getD_eq_getElem?_getD, List.getD_eq_getElem?_getD, List.getElem?_drop]
def mDec (y0 y1 y2 y3 n : Nat) : Nat × Nat :=
  if y0 < 128 then (y0, 1)
  else if (y0 / 32 == 6 && (decide (1 < n) && y1 / 64 == 2)) = true then
    if y0 % 32 * 64 + y1 % 64 ≥ 128 then (y0 % 32 * 64 + y1 % 64, 2) else (65533, 1)
  else if (y0 / 16 == 14 && (decide (1 < n) && y1 / 64 == 2) && (decide (2 < n) && y2 / 64 == 2)) = true then
    if (decide (y0 % 16 * 4096 + y1 % 64 * 64 + y2 % 64 ≥ 2048) && Utf8.valid ((y0 % 16 * 4096 + y1 % 64 * 64 + y2 % 64 : Nat) : Int)) = true then (y0 % 16 * 4096 + y1 % 64 * 64 + y2 % 64, 3) else (65533, 1)
  else if (y0 / 8 == 30 && (decide (1 < n) && y1 / 64 == 2) && (decide (2 < n) && y2 / 64 == 2) && (decide (3 < n) && y3 / 64 == 2)) = true then
    if (decide (y0 % 8 * 262144 + y1 % 64 * 4096 + y2 % 64 * 64 + y3 % 64 ≥ 65536) && Utf8.valid ((y0 % 8 * 262144 + y1 % 64 * 4096 + y2 % 64 * 64 + y3 % 64 : Nat) : Int)) = true then (y0 % 8 * 262144 + y1 % 64 * 4096 + y2 % 64 * 64 + y3 % 64, 4) else (65533, 1)
  else (65533, 1)
theorem decode_mDec (s : ByteArray) (p n : Nat) (hn : s.size = p + n) : Utf8.decode s p = mDec (s.get! (p + 0)).toNat (s.get! (p + 1)).toNat (s.get! (p + 2)).toNat (s.get! (p + 3)).toNat n := by
  have d1 : decide (p + 1 < s.size) = decide (1 < n) := by rw [Bool.eq_iff_iff]; simp; omega
  have d2 : decide (p + 2 < s.size) = decide (2 < n) := by rw [Bool.eq_iff_iff]; simp; omega
  have d3 : decide (p + 3 < s.size) = decide (3 < n) := by rw [Bool.eq_iff_iff]; simp; omega
  unfold mDec
  rw [← d1, ← d2, ← d3]
  rfl
theorem mDec_sDec (y0 y1 y2 y3 n : Nat) (h0 : y0 < 256) (h1 : y1 < 256) (h2 : y2 < 256) (h3 : y3 < 256) :
    (((mDec y0 y1 y2 y3 n).1 : Int), (mDec y0 y1 y2 y3 n).2) = (match sDec y0 y1 y2 y3 n with | some (c, k) => (c, k) | none => (65533, 1)) := by
  have fin : ∀ (a b : Nat) (o : Option (Int × Nat)), mDec y0 y1 y2 y3 n = (a, b) → sDec y0 y1 y2 y3 n = o → ((o = none ∧ a = 65533 ∧ b = 1) ∨ ∃ c : Int, o = some (c, b) ∧ c = (a : Int)) →
      (((mDec y0 y1 y2 y3 n).1 : Int), (mDec y0 y1 y2 y3 n).2) = (match sDec y0 y1 y2 y3 n with | some (c, k) => (c, k) | none => (65533, 1)) := by
    intro a b o h1 h2 h3
    rw [h1, h2]
    rcases h3 with ⟨rfl, rfl, rfl⟩ | ⟨c, rfl, rfl⟩
    · rfl
    · rfl
  by_cases c0 : y0 < 128
  · refine fin y0 1 (some (y0, 1)) ?_ ?_ (.inr ⟨_, rfl, rfl⟩)
    · unfold mDec; rw [if_pos c0]
    · unfold sDec; rw [if_pos (by omega)]
  by_cases c1 : y0 / 32 = 6 ∧ 1 < n ∧ y1 / 64 = 2
  · by_cases c2 : y0 % 32 * 64 + y1 % 64 ≥ 128
    · refine fin _ _ _ (by unfold mDec; rw [if_neg c0, if_pos (by simpa using c1), if_pos c2]) (by unfold sDec cont; rw [if_neg (by omega), if_pos (by omega)]) (.inr ⟨_, rfl, by omega⟩)
    · refine fin _ _ _ (by unfold mDec; rw [if_neg c0, if_pos (by simpa using c1), if_neg c2]) (by unfold sDec cont; rw [if_neg (by omega), if_neg (by omega), if_neg (by omega), if_neg (by omega)]) (.inl ⟨rfl, rfl, rfl⟩)
  by_cases c2 : y0 / 16 = 14 ∧ (1 < n ∧ y1 / 64 = 2) ∧ 2 < n ∧ y2 / 64 = 2
  · by_cases c3 : y0 % 16 * 4096 + y1 % 64 * 64 + y2 % 64 ≥ 2048 ∧ (y0 % 16 * 4096 + y1 % 64 * 64 + y2 % 64 < 55296 ∨ 57344 ≤ y0 % 16 * 4096 + y1 % 64 * 64 + y2 % 64)
    · refine fin _ _ _ (by unfold mDec; rw [if_neg c0, if_neg (by simpa using c1), if_pos (by simp; omega), if_pos (by simp [Utf8.valid]; omega)]) (by unfold sDec cont; rw [if_neg (by omega), if_neg (by omega), if_pos (by omega)]) (.inr ⟨_, rfl, by omega⟩)
    · refine fin _ _ _ (by unfold mDec; rw [if_neg c0, if_neg (by simpa using c1), if_pos (by simp; omega), if_neg (by simp [Utf8.valid]; omega)]) (by unfold sDec cont; rw [if_neg (by omega), if_neg (by omega), if_neg (by omega), if_neg (by omega)]) (.inl ⟨rfl, rfl, rfl⟩)
  by_cases c3 : y0 / 8 = 30 ∧ (1 < n ∧ y1 / 64 = 2) ∧ (2 < n ∧ y2 / 64 = 2) ∧ 3 < n ∧ y3 / 64 = 2
  · by_cases c4 : y0 % 8 * 262144 + y1 % 64 * 4096 + y2 % 64 * 64 + y3 % 64 ≥ 65536 ∧ y0 % 8 * 262144 + y1 % 64 * 4096 + y2 % 64 * 64 + y3 % 64 ≤ 1114111
    · refine fin _ _ _ (by unfold mDec; rw [if_neg c0, if_neg (by simpa using c1), if_neg (by simp; omega), if_pos (by simp; omega), if_pos (by simp [Utf8.valid]; omega)]) (by unfold sDec cont; rw [if_neg (by omega), if_neg (by omega), if_neg (by omega), if_pos (by omega)]) (.inr ⟨_, rfl, by omega⟩)
    · refine fin _ _ _ (by unfold mDec; rw [if_neg c0, if_neg (by simpa using c1), if_neg (by simp; omega), if_pos (by simp; omega), if_neg (by simp [Utf8.valid]; omega)]) (by unfold sDec cont; rw [if_neg (by omega), if_neg (by omega), if_neg (by omega), if_neg (by omega)]) (.inl ⟨rfl, rfl, rfl⟩)
  · refine fin _ _ _ (by unfold mDec; rw [if_neg c0, if_neg (by simpa using c1), if_neg (by simp; omega), if_neg (by simp; omega)]) (by unfold sDec cont; rw [if_neg (by omega), if_neg (by omega), if_neg (by omega), if_neg (by omega)]) (.inl ⟨rfl, rfl, rfl⟩)
theorem decode_is {l : List Int} (hok : okB l) (p : Nat) (hp : p < l.length) :
    (((Utf8.decode (strOfNums l) p).1 : Int), (Utf8.decode (strOfNums l) p).2) = (match uDec (l.drop p) with | some (c, n) => (c, n) | none => (65533, 1)) := by
  have hs : (strOfNums l).size = p + (l.length - p) := by rw [strOfNums_size l]; omega
  rw [decode_mDec _ _ _ hs]
  have h := mDec_sDec ((strOfNums l).get! (p + 0)).toNat ((strOfNums l).get! (p + 1)).toNat ((strOfNums l).get! (p + 2)).toNat ((strOfNums l).get! (p + 3)).toNat (l.length - p) (UInt8.toNat_lt _) (UInt8.toNat_lt _) (UInt8.toNat_lt _) (UInt8.toNat_lt _)
  rw [get_num hok, get_num hok, get_num hok, get_num hok] at h
  have r0 := rd_drop' l p 0
  have r1 := rd_drop' l p 1
  have r2 := rd_drop' l p 2
  have r3 := rd_drop' l p 3
  rw [← r0, ← r1, ← r2, ← r3] at h
  rw [h]
  unfold uDec
  rw [List.length_drop]
  rfl
theorem three_of {m : List Int} (h : 3 ≤ m.length) : m.take 3 = [rd m 0, rd m 1, rd m 2] := by
  match m, h with
  | a :: b :: c :: r, _ => simp [rd]
theorem sDec_max (x0 x1 x2 x3 : Int) (n : Nat) (h0 : 0 ≤ x0) (h1 : x0 < 256) : (∃ k, sDec x0 x1 x2 x3 n = some (65533, k)) ↔ (3 ≤ n ∧ x0 = 239 ∧ x1 = 191 ∧ x2 = 189) := by
  unfold sDec cont
  constructor
  · rintro ⟨k, h⟩
    split at h
    · have := (Prod.mk.inj (Option.some.inj h)).1; omega
    · split at h
      · have := (Prod.mk.inj (Option.some.inj h)).1; omega
      · split at h
        · have := (Prod.mk.inj (Option.some.inj h)).1; omega
        · split at h
          · have := (Prod.mk.inj (Option.some.inj h)).1; omega
          · cases h
  · rintro ⟨h, rfl, rfl, rfl⟩
    refine ⟨3, ?_⟩
    rw [if_neg (by decide), if_neg (by omega), if_pos (by omega)]
    rfl
theorem okc_is {l : List Int} (hok : okB l) (p : Nat) (hp : p < l.length) (hl : l.length ≤ 1000000) :
    okc (strOfNums l) p ((Utf8.decode (strOfNums l) p).1 : Int) = (uDec (l.drop p)).isSome := by
  have hd := decode_is hok p hp
  obtain ⟨c, hc⟩ : ∃ c : Int, c = ((Utf8.decode (strOfNums l) p).1 : Int) := ⟨_, rfl⟩
  rw [← hc] at hd ⊢
  clear hc
  have hs := strOfNums_size l
  have hdok : okB (l.drop p) := fun x hx => hok x (List.mem_of_mem_drop hx)
  have hr0 := rd_range hdok 0
  have hr1 := rd_range hdok 1
  have hr2 := rd_range hdok 2
  have hlen : (l.drop p).length = l.length - p := List.length_drop
  have hmax := sDec_max (rd (l.drop p) 0) (rd (l.drop p) 1) (rd (l.drop p) 2) (rd (l.drop p) 3) (l.drop p).length hr0.1 hr0.2
  have hu : uDec (l.drop p) = sDec (rd (l.drop p) 0) (rd (l.drop p) 1) (rd (l.drop p) 2) (rd (l.drop p) 3) (l.drop p).length := rfl
  rw [← hu] at hmax
  have hex : 3 ≤ (l.drop p).length → (((strOfNums l).extract p (p + 3)).toList == ([239, 191, 189] : List UInt8)) = decide (rd (l.drop p) 0 = 239 ∧ rd (l.drop p) 1 = 191 ∧ rd (l.drop p) 2 = 189) := by
    intro h3
    rw [Lib.extract_toList, strOfNums_data, ← List.map_drop, ← List.map_take, show p + 3 - p = 3 from by omega, three_of h3]
    rw [Bool.eq_iff_iff]
    simp only [List.map_cons, List.map_nil, beq_iff_eq, List.cons.injEq, and_true, decide_eq_true_eq]
    have e : ∀ (x : Int) (k : Nat), 0 ≤ x → x < 256 → k < 256 → (UInt8.ofNat x.toNat = UInt8.ofNat k ↔ x = (k : Int)) := by
      intro x k x0 x1 hk
      constructor
      · intro h
        have := congrArg UInt8.toNat h
        rw [UInt8.toNat_ofNat', UInt8.toNat_ofNat'] at this
        omega
      · rintro rfl
        simp
    have e0 := e _ 239 hr0.1 hr0.2 (by decide)
    have e1 := e _ 191 hr1.1 hr1.2 (by decide)
    have e2 := e _ 189 hr2.1 hr2.2 (by decide)
    rw [show (UInt8.ofNat 239) = 239 from rfl] at e0
    rw [show (UInt8.ofNat 191) = 191 from rfl] at e1
    rw [show (UInt8.ofNat 189) = 189 from rfl] at e2
    rw [e0, e1, e2]
    rfl
  have hval : okc (strOfNums l) p c = if c = 65533 then (if 3 ≤ (l.drop p).length then decide (rd (l.drop p) 0 = 239 ∧ rd (l.drop p) 1 = 191 ∧ rd (l.drop p) 2 = 189) else false) else true := by
    unfold okc PUtfReads.utf_right.f
    have h1 : wrap64 (((strOfNums l).size : Int) - (p : Int)) = ((l.drop p).length : Int) := by rw [hs, hlen]; unfold wrap64; omega
    have h2 : wrap64 ((p : Int) + 3) = (p : Int) + 3 := by unfold wrap64; omega
    rw [h1, h2]
    by_cases c1 : c = 65533
    · rw [if_pos c1, if_pos c1]
      by_cases c3 : 3 ≤ (l.drop p).length
      · rw [if_pos (by omega), if_pos (by omega), if_pos (by omega), if_pos (by rw [hs]; omega), if_pos c3, ← hex c3]
        rfl
      · rw [if_neg (by omega), if_neg c3]
        rfl
    · rw [if_neg c1, if_neg c1]
      rfl
  rw [hval]
  cases he : uDec (l.drop p) with
  | none =>
    rw [he] at hd hmax
    obtain rfl : c = 65533 := (Prod.mk.inj hd).1
    rw [if_pos rfl]
    split
    · have : ¬ (rd (l.drop p) 0 = 239 ∧ rd (l.drop p) 1 = 191 ∧ rd (l.drop p) 2 = 189) := by
        intro h
        obtain ⟨k, hk⟩ := hmax.2 ⟨by assumption, h⟩
        cases hk
      simpa using this
    · rfl
  | some q =>
    obtain ⟨c', k⟩ := q
    rw [he] at hd hmax
    obtain rfl : c = c' := (Prod.mk.inj hd).1
    split
    · rename_i h
      subst h
      have := hmax.1 ⟨k, rfl⟩
      rw [if_pos this.1]
      simpa using this.2
    · rfl
end Go.Proofs.Ytjhdnlgbboboiaa.Utf
