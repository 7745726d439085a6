/- The plain law of characters: what the model's range over a string says of bytes, as a list of numbers. No program in sight. -/
import Derived.Test.YtjhdnlgbboboiaaUtfAwake
import Derived.Test.YtjhdnlgbboboiaaLebStub
import Derived.Lib.Strings
namespace Go.Proofs.Ytjhdnlgbboboiaa.Utf
open Go.RowKit Go.Proofs.YtjhdnlgbboboiaaW.PrintWords Go.Proofs.Ytjhdnlgbboboiaa.Leb
set_option linter.unusedVariables false

def cont (x : Int) : Prop := 128 ≤ x ∧ x < 192
instance (x : Int) : Decidable (cont x) := by unfold cont; infer_instance
/-- The character of four bytes, of which so many are there, and how many bytes it has. -/
def sDec (x0 x1 x2 x3 : Int) (n : Nat) : Option (Int × Nat) :=
  if x0 < 128 then some (x0, 1)
  else if 192 ≤ x0 ∧ x0 < 224 ∧ 2 ≤ n ∧ cont x1 ∧ 128 ≤ (x0 - 192) * 64 + (x1 - 128) then some ((x0 - 192) * 64 + (x1 - 128), 2)
  else if 224 ≤ x0 ∧ x0 < 240 ∧ 3 ≤ n ∧ cont x1 ∧ cont x2 ∧ 2048 ≤ (x0 - 224) * 4096 + (x1 - 128) * 64 + (x2 - 128) ∧ ((x0 - 224) * 4096 + (x1 - 128) * 64 + (x2 - 128) < 55296 ∨ 57344 ≤ (x0 - 224) * 4096 + (x1 - 128) * 64 + (x2 - 128)) then some ((x0 - 224) * 4096 + (x1 - 128) * 64 + (x2 - 128), 3)
  else if 240 ≤ x0 ∧ x0 < 248 ∧ 4 ≤ n ∧ cont x1 ∧ cont x2 ∧ cont x3 ∧ 65536 ≤ (x0 - 240) * 262144 + (x1 - 128) * 4096 + (x2 - 128) * 64 + (x3 - 128) ∧ (x0 - 240) * 262144 + (x1 - 128) * 4096 + (x2 - 128) * 64 + (x3 - 128) ≤ 1114111 then some ((x0 - 240) * 262144 + (x1 - 128) * 4096 + (x2 - 128) * 64 + (x3 - 128), 4)
  else none
/-- The character at the front of bytes, and how many bytes it has. -/
def uDec (m : List Int) : Option (Int × Nat) := sDec (rd m 0) (rd m 1) (rd m 2) (rd m 3) m.length
theorem rd_range {l : List Int} (hok : okB l) (j : Int) : 0 ≤ rd l j ∧ rd l j < 256 := by
  unfold rd
  rw [List.getD_eq_getElem?_getD]
  by_cases h : j.toNat < l.length
  · rw [List.getElem?_eq_getElem h]
    exact hok _ (List.getElem_mem h)
  · rw [List.getElem?_eq_none (by omega)]
    exact ⟨by decide, by decide⟩
theorem get_num {l : List Int} (hok : okB l) (j : Nat) : (((strOfNums l).get! j).toNat : Int) = rd l (j : Int) := by
  have hr := rd_range hok (j : Int)
  unfold rd at *
  rw [Int.toNat_natCast, List.getD_eq_getElem?_getD] at *
  by_cases h : j < l.length
  · have e : (strOfNums l).get! j = UInt8.ofNat (l[j].toNat) := by
      show (strOfNums l).data[j]! = _
      unfold strOfNums
      rw [getElem!_pos _ _ (by simpa using h)]
      simp
    rw [e]
    rw [List.getElem?_eq_getElem h] at *
    simp only [Option.getD_some] at *
    rw [UInt8.toNat_ofNat']
    omega
  · have e : (strOfNums l).get! j = 0 := by
      show (strOfNums l).data[j]! = _
      unfold strOfNums
      rw [getElem!_neg _ _ (by simpa using h)]
      rfl
    rw [e, List.getElem?_eq_none (by omega)]
    rfl
theorem rd_drop' (l : List Int) (p : Nat) (k : Nat) : rd (l.drop p) (k : Int) = rd l ((p + k : Nat) : Int) := by
  unfold rd
  rw [Int.toNat_natCast, Int.toNat_natCast, List.getD_eq_getElem?_getD, List.getD_eq_getElem?_getD, List.getElem?_drop]
def mDec (y0 y1 y2 y3 n : Nat) : Nat × Nat :=
  if y0 < 128 then (y0, 1)
  else if (y0 / 32 == 6 && (decide (1 < n) && y1 / 64 == 2)) = true then
    if y0 % 32 * 64 + y1 % 64 ≥ 128 then (y0 % 32 * 64 + y1 % 64, 2) else (65533, 1)
  else if (y0 / 16 == 14 && (decide (1 < n) && y1 / 64 == 2) && (decide (2 < n) && y2 / 64 == 2)) = true then
    if (decide (y0 % 16 * 4096 + y1 % 64 * 64 + y2 % 64 ≥ 2048) && Utf8.valid ((y0 % 16 * 4096 + y1 % 64 * 64 + y2 % 64 : Nat) : Int)) = true then (y0 % 16 * 4096 + y1 % 64 * 64 + y2 % 64, 3) else (65533, 1)
  else if (y0 / 8 == 30 && (decide (1 < n) && y1 / 64 == 2) && (decide (2 < n) && y2 / 64 == 2) && (decide (3 < n) && y3 / 64 == 2)) = true then
    if (decide (y0 % 8 * 262144 + y1 % 64 * 4096 + y2 % 64 * 64 + y3 % 64 ≥ 65536) && Utf8.valid ((y0 % 8 * 262144 + y1 % 64 * 4096 + y2 % 64 * 64 + y3 % 64 : Nat) : Int)) = true then (y0 % 8 * 262144 + y1 % 64 * 4096 + y2 % 64 * 64 + y3 % 64, 4) else (65533, 1)
  else (65533, 1)
theorem decode_mDec (s : ByteArray) (p n : Nat) (hn : s.size = p + n) : Utf8.decode s p = mDec (s.get! (p + 0)).toNat (s.get! (p + 1)).toNat (s.get! (p + 2)).toNat (s.get! (p + 3)).toNat n := by
  have d1 : decide (p + 1 < s.size) = decide (1 < n) := by rw [Bool.eq_iff_iff]; simp; omega
  have d2 : decide (p + 2 < s.size) = decide (2 < n) := by rw [Bool.eq_iff_iff]; simp; omega
  have d3 : decide (p + 3 < s.size) = decide (3 < n) := by rw [Bool.eq_iff_iff]; simp; omega
  unfold mDec
  rw [← d1, ← d2, ← d3]
  rfl
theorem mDec_sDec (y0 y1 y2 y3 n : Nat) (h0 : y0 < 256) (h1 : y1 < 256) (h2 : y2 < 256) (h3 : y3 < 256) :
    (((mDec y0 y1 y2 y3 n).1 : Int), (mDec y0 y1 y2 y3 n).2) = (match sDec y0 y1 y2 y3 n with | some (c, k) => (c, k) | none => (65533, 1)) := by
  have fin : ∀ (a b : Nat) (o : Option (Int × Nat)), mDec y0 y1 y2 y3 n = (a, b) → sDec y0 y1 y2 y3 n = o → ((o = none ∧ a = 65533 ∧ b = 1) ∨ ∃ c : Int, o = some (c, b) ∧ c = (a : Int)) →
      (((mDec y0 y1 y2 y3 n).1 : Int), (mDec y0 y1 y2 y3 n).2) = (match sDec y0 y1 y2 y3 n with | some (c, k) => (c, k) | none => (65533, 1)) := by
    intro a b o h1 h2 h3
    rw [h1, h2]
    rcases h3 with ⟨rfl, rfl, rfl⟩ | ⟨c, rfl, rfl⟩
    · rfl
    · rfl
  by_cases c0 : y0 < 128
  · refine fin y0 1 (some (y0, 1)) ?_ ?_ (.inr ⟨_, rfl, rfl⟩)
    · unfold mDec; rw [if_pos c0]
    · unfold sDec; rw [if_pos (by omega)]
  by_cases c1 : y0 / 32 = 6 ∧ 1 < n ∧ y1 / 64 = 2
  · by_cases c2 : y0 % 32 * 64 + y1 % 64 ≥ 128
    · refine fin _ _ _ (by unfold mDec; rw [if_neg c0, if_pos (by simpa using c1), if_pos c2]) (by unfold sDec cont; rw [if_neg (by omega), if_pos (by omega)]) (.inr ⟨_, rfl, by omega⟩)
    · refine fin _ _ _ (by unfold mDec; rw [if_neg c0, if_pos (by simpa using c1), if_neg c2]) (by unfold sDec cont; rw [if_neg (by omega), if_neg (by omega), if_neg (by omega), if_neg (by omega)]) (.inl ⟨rfl, rfl, rfl⟩)
  by_cases c2 : y0 / 16 = 14 ∧ (1 < n ∧ y1 / 64 = 2) ∧ 2 < n ∧ y2 / 64 = 2
  · by_cases c3 : y0 % 16 * 4096 + y1 % 64 * 64 + y2 % 64 ≥ 2048 ∧ (y0 % 16 * 4096 + y1 % 64 * 64 + y2 % 64 < 55296 ∨ 57344 ≤ y0 % 16 * 4096 + y1 % 64 * 64 + y2 % 64)
    · refine fin _ _ _ (by unfold mDec; rw [if_neg c0, if_neg (by simpa using c1), if_pos (by simp; omega), if_pos (by simp [Utf8.valid]; omega)]) (by unfold sDec cont; rw [if_neg (by omega), if_neg (by omega), if_pos (by omega)]) (.inr ⟨_, rfl, by omega⟩)
    · refine fin _ _ _ (by unfold mDec; rw [if_neg c0, if_neg (by simpa using c1), if_pos (by simp; omega), if_neg (by simp [Utf8.valid]; omega)]) (by unfold sDec cont; rw [if_neg (by omega), if_neg (by omega), if_neg (by omega), if_neg (by omega)]) (.inl ⟨rfl, rfl, rfl⟩)
  by_cases c3 : y0 / 8 = 30 ∧ (1 < n ∧ y1 / 64 = 2) ∧ (2 < n ∧ y2 / 64 = 2) ∧ 3 < n ∧ y3 / 64 = 2
  · by_cases c4 : y0 % 8 * 262144 + y1 % 64 * 4096 + y2 % 64 * 64 + y3 % 64 ≥ 65536 ∧ y0 % 8 * 262144 + y1 % 64 * 4096 + y2 % 64 * 64 + y3 % 64 ≤ 1114111
    · refine fin _ _ _ (by unfold mDec; rw [if_neg c0, if_neg (by simpa using c1), if_neg (by simp; omega), if_pos (by simp; omega), if_pos (by simp [Utf8.valid]; omega)]) (by unfold sDec cont; rw [if_neg (by omega), if_neg (by omega), if_neg (by omega), if_pos (by omega)]) (.inr ⟨_, rfl, by omega⟩)
    · refine fin _ _ _ (by unfold mDec; rw [if_neg c0, if_neg (by simpa using c1), if_neg (by simp; omega), if_pos (by simp; omega), if_neg (by simp [Utf8.valid]; omega)]) (by unfold sDec cont; rw [if_neg (by omega), if_neg (by omega), if_neg (by omega), if_neg (by omega)]) (.inl ⟨rfl, rfl, rfl⟩)
  · refine fin _ _ _ (by unfold mDec; rw [if_neg c0, if_neg (by simpa using c1), if_neg (by simp; omega), if_neg (by simp; omega)]) (by unfold sDec cont; rw [if_neg (by omega), if_neg (by omega), if_neg (by omega), if_neg (by omega)]) (.inl ⟨rfl, rfl, rfl⟩)
theorem decode_is {l : List Int} (hok : okB l) (p : Nat) (hp : p < l.length) :
    (((Utf8.decode (strOfNums l) p).1 : Int), (Utf8.decode (strOfNums l) p).2) = (match uDec (l.drop p) with | some (c, n) => (c, n) | none => (65533, 1)) := by
  have hs : (strOfNums l).size = p + (l.length - p) := by rw [strOfNums_size l]; omega
  rw [decode_mDec _ _ _ hs]
  have h := mDec_sDec ((strOfNums l).get! (p + 0)).toNat ((strOfNums l).get! (p + 1)).toNat ((strOfNums l).get! (p + 2)).toNat ((strOfNums l).get! (p + 3)).toNat (l.length - p) (UInt8.toNat_lt _) (UInt8.toNat_lt _) (UInt8.toNat_lt _) (UInt8.toNat_lt _)
  rw [get_num hok, get_num hok, get_num hok, get_num hok] at h
  have r0 := rd_drop' l p 0
  have r1 := rd_drop' l p 1
  have r2 := rd_drop' l p 2
  have r3 := rd_drop' l p 3
  rw [← r0, ← r1, ← r2, ← r3] at h
  rw [h]
  unfold uDec
  rw [List.length_drop]
  rfl
theorem three_of {m : List Int} (h : 3 ≤ m.length) : m.take 3 = [rd m 0, rd m 1, rd m 2] := by
  match m, h with
  | a :: b :: c :: r, _ => simp [rd]
theorem sDec_max (x0 x1 x2 x3 : Int) (n : Nat) (h0 : 0 ≤ x0) (h1 : x0 < 256) : (∃ k, sDec x0 x1 x2 x3 n = some (65533, k)) ↔ (3 ≤ n ∧ x0 = 239 ∧ x1 = 191 ∧ x2 = 189) := by
  unfold sDec cont
  constructor
  · rintro ⟨k, h⟩
    split at h
    · have := (Prod.mk.inj (Option.some.inj h)).1; omega
    · split at h
      · have := (Prod.mk.inj (Option.some.inj h)).1; omega
      · split at h
        · have := (Prod.mk.inj (Option.some.inj h)).1; omega
        · split at h
          · have := (Prod.mk.inj (Option.some.inj h)).1; omega
          · cases h
  · rintro ⟨h, rfl, rfl, rfl⟩
    refine ⟨3, ?_⟩
    rw [if_neg (by decide), if_neg (by omega), if_pos (by omega)]
    rfl
theorem okc_is {l : List Int} (hok : okB l) (p : Nat) (hp : p < l.length) (hl : l.length ≤ 1000000) :
    okc (strOfNums l) p ((Utf8.decode (strOfNums l) p).1 : Int) = (uDec (l.drop p)).isSome := by
  have hd := decode_is hok p hp
  obtain ⟨c, hc⟩ : ∃ c : Int, c = ((Utf8.decode (strOfNums l) p).1 : Int) := ⟨_, rfl⟩
  rw [← hc] at hd ⊢
  clear hc
  have hs := strOfNums_size l
  have hdok : okB (l.drop p) := fun x hx => hok x (List.mem_of_mem_drop hx)
  have hr0 := rd_range hdok 0
  have hr1 := rd_range hdok 1
  have hr2 := rd_range hdok 2
  have hlen : (l.drop p).length = l.length - p := List.length_drop
  have hmax := sDec_max (rd (l.drop p) 0) (rd (l.drop p) 1) (rd (l.drop p) 2) (rd (l.drop p) 3) (l.drop p).length hr0.1 hr0.2
  have hu : uDec (l.drop p) = sDec (rd (l.drop p) 0) (rd (l.drop p) 1) (rd (l.drop p) 2) (rd (l.drop p) 3) (l.drop p).length := rfl
  rw [← hu] at hmax
  have hex : 3 ≤ (l.drop p).length → (((strOfNums l).extract p (p + 3)).toList == ([239, 191, 189] : List UInt8)) = decide (rd (l.drop p) 0 = 239 ∧ rd (l.drop p) 1 = 191 ∧ rd (l.drop p) 2 = 189) := by
    intro h3
    rw [Lib.extract_toList, strOfNums_data, ← List.map_drop, ← List.map_take, show p + 3 - p = 3 from by omega, three_of h3]
    rw [Bool.eq_iff_iff]
    simp only [List.map_cons, List.map_nil, beq_iff_eq, List.cons.injEq, and_true, decide_eq_true_eq]
    have e : ∀ (x : Int) (k : Nat), 0 ≤ x → x < 256 → k < 256 → (UInt8.ofNat x.toNat = UInt8.ofNat k ↔ x = (k : Int)) := by
      intro x k x0 x1 hk
      constructor
      · intro h
        have := congrArg UInt8.toNat h
        rw [UInt8.toNat_ofNat', UInt8.toNat_ofNat'] at this
        omega
      · rintro rfl
        simp
    have e0 := e _ 239 hr0.1 hr0.2 (by decide)
    have e1 := e _ 191 hr1.1 hr1.2 (by decide)
    have e2 := e _ 189 hr2.1 hr2.2 (by decide)
    rw [show (UInt8.ofNat 239) = 239 from rfl] at e0
    rw [show (UInt8.ofNat 191) = 191 from rfl] at e1
    rw [show (UInt8.ofNat 189) = 189 from rfl] at e2
    rw [e0, e1, e2]
    rfl
  have hval : okc (strOfNums l) p c = if c = 65533 then (if 3 ≤ (l.drop p).length then decide (rd (l.drop p) 0 = 239 ∧ rd (l.drop p) 1 = 191 ∧ rd (l.drop p) 2 = 189) else false) else true := by
    unfold okc PUtfReads.utf_right.f
    have h1 : wrap64 (((strOfNums l).size : Int) - (p : Int)) = ((l.drop p).length : Int) := by rw [hs, hlen]; unfold wrap64; omega
    have h2 : wrap64 ((p : Int) + 3) = (p : Int) + 3 := by unfold wrap64; omega
    rw [h1, h2]
    by_cases c1 : c = 65533
    · rw [if_pos c1, if_pos c1]
      by_cases c3 : 3 ≤ (l.drop p).length
      · rw [if_pos (by omega), if_pos (by omega), if_pos (by omega), if_pos (by rw [hs]; omega), if_pos c3, ← hex c3]
        rfl
      · rw [if_neg (by omega), if_neg c3]
        rfl
    · rw [if_neg c1, if_neg c1]
      rfl
  rw [hval]
  cases he : uDec (l.drop p) with
  | none =>
    rw [he] at hd hmax
    obtain rfl : c = 65533 := (Prod.mk.inj hd).1
    rw [if_pos rfl]
    split
    · have : ¬ (rd (l.drop p) 0 = 239 ∧ rd (l.drop p) 1 = 191 ∧ rd (l.drop p) 2 = 189) := by
        intro h
        obtain ⟨k, hk⟩ := hmax.2 ⟨by assumption, h⟩
        cases hk
      simpa using this
    · rfl
  | some q =>
    obtain ⟨c', k⟩ := q
    rw [he] at hd hmax
    obtain rfl : c = c' := (Prod.mk.inj hd).1
    split
    · rename_i h
      subst h
      have := hmax.1 ⟨k, rfl⟩
      rw [if_pos this.1]
      simpa using this.2
    · rfl
end Go.Proofs.Ytjhdnlgbboboiaa.Utf
