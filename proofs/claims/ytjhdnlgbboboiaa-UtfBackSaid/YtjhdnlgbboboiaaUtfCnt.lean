/- The plain law of counting characters: the program's and the document's, both as one plain count. -/
import Derived.Test.YtjhdnlgbboboiaaUtfRef2
namespace Go.Proofs.Ytjhdnlgbboboiaa.Utf
open Go.RowKit Go.Proofs.YtjhdnlgbboboiaaW.PrintWords Go.Proofs.Ytjhdnlgbboboiaa.Leb Go.Proofs.Ytjhdnlgbboboiaa.Q16
set_option linter.unusedVariables false

theorem rd_take (m : List Int) (k j : Nat) (h : j < k) : rd (m.take k) (j : Int) = rd m (j : Int) := by
  unfold rd
  rw [Int.toNat_natCast, List.getD_eq_getElem?_getD, List.getD_eq_getElem?_getD, List.getElem?_take, if_pos h]
theorem uDec_take5 (m : List Int) : uDec (m.take 5) = uDec m := by
  unfold uDec
  have r0 := rd_take m 5 0 (by decide)
  have r1 := rd_take m 5 1 (by decide)
  have r2 := rd_take m 5 2 (by decide)
  have r3 := rd_take m 5 3 (by decide)
  rw [show ((0 : Nat) : Int) = 0 from rfl] at r0
  rw [show ((1 : Nat) : Int) = 1 from rfl] at r1
  rw [show ((2 : Nat) : Int) = 2 from rfl] at r2
  rw [show ((3 : Nat) : Int) = 3 from rfl] at r3
  rw [r0, r1, r2, r3, List.length_take]
  unfold sDec
  have a2 : (2 ≤ min 5 m.length) = (2 ≤ m.length) := propext (by omega)
  have a3 : (3 ≤ min 5 m.length) = (3 ≤ m.length) := propext (by omega)
  have a4 : (4 ≤ min 5 m.length) = (4 ≤ m.length) := propext (by omega)
  simp only [a2, a3, a4]
theorem sDec_width {x0 x1 x2 x3 : Int} {n : Nat} {c : Int} {k : Nat} (h : sDec x0 x1 x2 x3 n = some (c, k)) (hx : 0 ≤ x0) (hn : 1 ≤ n) : 1 ≤ k ∧ k ≤ n ∧ 0 ≤ c ∧ c ≤ 1114111 := by
  unfold sDec cont at h
  split at h
  · obtain ⟨rfl, rfl⟩ := Prod.mk.inj (Option.some.inj h); omega
  · split at h
    · obtain ⟨rfl, rfl⟩ := Prod.mk.inj (Option.some.inj h); omega
    · split at h
      · obtain ⟨rfl, rfl⟩ := Prod.mk.inj (Option.some.inj h); omega
      · split at h
        · obtain ⟨rfl, rfl⟩ := Prod.mk.inj (Option.some.inj h); omega
        · cases h
theorem uDec_width {m : List Int} (hok : okB m) {c : Int} {k : Nat} (h : uDec m = some (c, k)) (hn : 1 ≤ m.length) : 1 ≤ k ∧ k ≤ m.length ∧ 0 ≤ c ∧ c ≤ 1114111 :=
  sDec_width h (rd_range hok 0).1 hn
theorem okB_drop {l : List Int} (h : okB l) (p : Nat) : okB (l.drop p) := fun x hx => h x (List.mem_of_mem_drop hx)
theorem okB_take' {l : List Int} (h : okB l) (p : Nat) : okB (l.take p) := fun x hx => h x (List.mem_of_mem_take hx)
theorem nextF_is (l : List Int) (hok : okB l) (i : Nat) (hl : l.length ≤ 1000000) (hi : i < l.length) : nextF l (i : Int) = (match uDec (l.drop i) with | some (c, n) => (c, (i : Int) + (n : Int), true) | none => (0, 0, false)) := by
  unfold nextF
  rw [if_neg (by omega), Int.toNat_natCast]
  obtain ⟨m, hm⟩ : ∃ m, m = (l.drop i).take 5 := ⟨_, rfl⟩
  have hmok : okB m := by rw [hm]; exact okB_take' (okB_drop hok i) 5
  have hml : 0 < m.length := by rw [hm, List.length_take, List.length_drop]; omega
  have hml2 : m.length ≤ 1000000 := by rw [hm, List.length_take]; omega
  have hu : uDec (l.drop i) = uDec m := by rw [hm, uDec_take5]
  rw [← hm, hu]
  unfold nextT
  have hs : (strOfNums m).size = m.length := strOfNums_size m
  obtain ⟨d, hd⟩ : ∃ d, m.length = d + 1 := ⟨m.length - 1, by omega⟩
  rw [hs, hd]
  simp only [chars]
  rw [if_pos (by omega)]
  simp only [tellL]
  have ho := okc_is hmok 0 hml hml2
  have hdc := decode_is hmok 0 hml
  simp only [List.drop_zero] at ho hdc
  rw [ho]
  cases he : uDec m with
  | none => simp
  | some q =>
    obtain ⟨c, n⟩ := q
    rw [he] at hdc
    obtain ⟨h1, h2⟩ := Prod.mk.inj hdc
    have hw := uDec_width hmok he (by omega)
    simp only [Option.isSome_some, if_true]
    rw [if_neg (by simp [nextBl]), h1, h2]
    simp only [nextStp, Nat.zero_add]
    rw [w64 (by omega) (by omega)]
/-- How many characters bytes have, if they are a name. -/
def uCnt : Nat → List Int → Option Int
  | 0, _ => some 0
  | d + 1, m => if m.length = 0 then some 0 else match uDec m with
    | none => none
    | some (_, n) => (uCnt d (m.drop n)).map (· + 1)
theorem uCnt_range (d : Nat) : ∀ (m : List Int) (k : Int), uCnt d m = some k → 0 ≤ k ∧ k ≤ d := by
  induction d with
  | zero => intro m k h; simp [uCnt] at h; omega
  | succ d ih =>
    intro m k h
    unfold uCnt at h
    split at h
    · have := Option.some.inj h; omega
    · split at h
      · cases h
      · rename_i n he
        rw [Option.map_eq_some_iff] at h
        obtain ⟨q, hq, rfl⟩ := h
        have := ih _ _ hq
        omega
theorem count_tell (l : List Int) (hok : okB l) (hl : l.length ≤ 1000000) (d : Nat) : ∀ (p : Nat) (n : Int), l.length ≤ p + d → 0 ≤ n → n + (d : Int) ≤ 2000000 →
    ∃ q, tellL (strOfNums l) countStp countBl (chars (strOfNums l) d p) n = ((uCnt d (l.drop p)).isSome, q) ∧ ∀ k, uCnt d (l.drop p) = some k → q = n + k := by
  have hs : (strOfNums l).size = l.length := strOfNums_size l
  induction d with
  | zero =>
    intro p n hp n0 n1
    exact ⟨n, by simp [chars, tellL, uCnt], fun k h => by simp [uCnt] at h; omega⟩
  | succ d ih =>
    intro p n hp n0 n1
    by_cases h : p < l.length
    · have hlen : (l.drop p).length = l.length - p := List.length_drop
      have ho := okc_is hok p h hl
      have hdc := decode_is hok p h
      simp only [chars, uCnt]
      rw [if_pos (by omega), if_neg (by omega)]
      simp only [tellL]
      rw [ho]
      cases he : uDec (l.drop p) with
      | none => exact ⟨n, by simp, fun k hk => by simp at hk⟩
      | some q =>
        obtain ⟨c, w⟩ := q
        rw [he] at hdc
        obtain ⟨h1, h2⟩ := Prod.mk.inj hdc
        have hw := uDec_width (okB_drop hok p) he (by omega)
        simp only [Option.isSome_some, if_true, countBl]
        rw [h2]
        have e : countStp n ((Utf8.decode (strOfNums l) p).1 : Int) ((p + w : Nat) : Int) = n + 1 := by
          unfold countStp
          exact w64 (by omega) (by omega)
        rw [e]
        obtain ⟨q, hq1, hq2⟩ := ih (p + w) (n + 1) (by omega) (by omega) (by omega)
        refine ⟨q, ?_, ?_⟩
        · rw [hq1, List.drop_drop]
          simp
        · intro k hk
          rw [List.drop_drop, Option.map_eq_some_iff] at hk
          obtain ⟨k', hk', rfl⟩ := hk
          have := hq2 k' hk'
          omega
    · have hlen : (l.drop p).length = l.length - p := List.length_drop
      simp only [chars, uCnt]
      rw [if_neg (by omega), if_pos (by omega)]
      exact ⟨n, by simp [tellL], fun k hk => by simp at hk; omega⟩
theorem count_ref (l : List Int) (hok : okB l) (hl : l.length ≤ 6000) (d : Nat) : ∀ (p : Nat) (n : Int), l.length ≤ p + d → 0 ≤ n → n + (d : Int) ≤ 2000000 →
    Ev (fun k => trunnionref16_Count.l0 k l n (p : Int)) (match uCnt d (l.drop p) with | some k => n + k | none => -1) := by
  induction d with
  | zero =>
    intro p n hp n0 n1
    refine Ev.step (f := fun _ => some n) (fun k => ?_) ?_
    · simp only [trunnionref16_Count.l0]
      rw [if_neg (by omega)]
    · simp only [uCnt, Int.add_zero]
      exact Ev.now _
  | succ d ih =>
    intro p n hp n0 n1
    have hlen : (l.drop p).length = l.length - p := List.length_drop
    by_cases h : p < l.length
    · simp only [uCnt]
      rw [if_neg (by omega)]
      refine Ev.step (f := fun k => (trunnionref16_Next.f k l (p : Int)).bind fun bt129 => (if bt129.1 < 0 then (some (-1)) else (trunnionref16_Count.l0 k l (wrap64 (n + 1)) bt129.2))) (fun k => ?_) ?_
      · simp only [trunnionref16_Count.l0]
        rw [if_pos (by omega)]
      · refine Ev.bind (next_ref l hok p hl h) ?_
        unfold nextR
        cases he : uDec (l.drop p) with
        | none =>
          simp only
          exact ⟨0, fun k _ => if_pos (by decide)⟩
        | some q =>
          obtain ⟨c, w⟩ := q
          have hw := uDec_width (okB_drop hok p) he (by omega)
          simp only
          have hi := ih (p + w) (n + 1) (by omega) (by omega) (by omega)
          rw [← List.drop_drop] at hi
          obtain ⟨K, hK⟩ := hi
          refine ⟨K, fun k hk => ?_⟩
          show (if c < 0 then (some (-1)) else (trunnionref16_Count.l0 k l (wrap64 (n + 1)) ((p : Int) + (w : Int)))) = _
          rw [if_neg (by omega), w64 (by omega) (by omega), show (p : Int) + (w : Int) = ((p + w : Nat) : Int) from by omega]
          have := hK k hk
          simp only at this
          rw [this]
          cases uCnt d ((l.drop p).drop w) with
          | none => rfl
          | some k' =>
            simp only [Option.map_some]
            congr 1
            omega
    · simp only [uCnt]
      rw [if_pos (by omega)]
      refine Ev.step (f := fun _ => some n) (fun k => ?_) ?_
      · simp only [trunnionref16_Count.l0]
        rw [if_neg (by omega)]
      · simp only [Int.add_zero]
        exact Ev.now _
/-- What utf.Count tells. -/
theorem countSF_is (l : List Int) (hok : okB l) (hl : l.length ≤ 1000000) : countSF l = some (match uCnt l.length l with | some k => (k, true) | none => (0, false)) := by
  unfold countSF
  rw [if_pos hl]
  obtain ⟨q, h1, h2⟩ := count_tell l hok hl l.length 0 0 (by omega) (by omega) (by omega)
  have hs : (strOfNums l).size = l.length := strOfNums_size l
  unfold countT
  rw [hs, h1]
  rw [List.drop_zero] at h2 ⊢
  cases he : uCnt l.length l with
  | none => simp
  | some k =>
    have := h2 k he
    simp
    omega
end Go.Proofs.Ytjhdnlgbboboiaa.Utf
