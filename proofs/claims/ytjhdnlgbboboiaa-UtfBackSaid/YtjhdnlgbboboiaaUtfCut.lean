/- The plain law of names that are cut: at the beginning of a character both parts are names, in its midst neither is. -/
import Derived.Test.YtjhdnlgbboboiaaUtfCnt
namespace Go.Proofs.Ytjhdnlgbboboiaa.Utf
open Go.RowKit Go.Proofs.YtjhdnlgbboboiaaW.PrintWords Go.Proofs.Ytjhdnlgbboboiaa.Leb Go.Proofs.Ytjhdnlgbboboiaa.Q16
set_option linter.unusedVariables false

theorem sDec_same {x0 x1 x2 x3 y1 y2 y3 : Int} {n m : Nat} {c : Int} {k : Nat} (h : sDec x0 x1 x2 x3 n = some (c, k)) (hk : k ≤ m) (h1 : 1 < k → y1 = x1) (h2 : 2 < k → y2 = x2) (h3 : 3 < k → y3 = x3) : sDec x0 y1 y2 y3 m = some (c, k) := by
  unfold sDec cont at *
  split at h
  · obtain ⟨rfl, rfl⟩ := Prod.mk.inj (Option.some.inj h)
    rw [if_pos (by assumption)]
  · rename_i c1
    split at h
    · rename_i c2
      obtain ⟨rfl, rfl⟩ := Prod.mk.inj (Option.some.inj h)
      obtain rfl := h1 (by decide)
      rw [if_neg c1, if_pos (by omega)]
    · rename_i c2
      split at h
      · rename_i c3
        obtain ⟨rfl, rfl⟩ := Prod.mk.inj (Option.some.inj h)
        obtain rfl := h1 (by decide)
        obtain rfl := h2 (by decide)
        rw [if_neg c1, if_neg (by omega), if_pos (by omega)]
      · rename_i c3
        split at h
        · rename_i c4
          obtain ⟨rfl, rfl⟩ := Prod.mk.inj (Option.some.inj h)
          obtain rfl := h1 (by decide)
          obtain rfl := h2 (by decide)
          obtain rfl := h3 (by decide)
          rw [if_neg c1, if_neg (by omega), if_neg (by omega), if_pos (by omega)]
        · cases h
theorem sDec_short {x0 x1 x2 x3 y1 y2 y3 : Int} {n m : Nat} {c : Int} {k : Nat} (h : sDec x0 x1 x2 x3 n = some (c, k)) (hk : m < k) (hm : 1 ≤ m) : sDec x0 y1 y2 y3 m = none := by
  unfold sDec cont at *
  split at h
  · obtain ⟨rfl, rfl⟩ := Prod.mk.inj (Option.some.inj h)
    omega
  · rename_i c1
    split at h
    · obtain ⟨rfl, rfl⟩ := Prod.mk.inj (Option.some.inj h)
      rw [if_neg c1, if_neg (by omega), if_neg (by omega), if_neg (by omega)]
    · split at h
      · obtain ⟨rfl, rfl⟩ := Prod.mk.inj (Option.some.inj h)
        rw [if_neg c1, if_neg (by omega), if_neg (by omega), if_neg (by omega)]
      · split at h
        · obtain ⟨rfl, rfl⟩ := Prod.mk.inj (Option.some.inj h)
          rw [if_neg c1, if_neg (by omega), if_neg (by omega), if_neg (by omega)]
        · cases h
theorem sDec_inner {x0 x1 x2 x3 : Int} {n : Nat} {c : Int} {k : Nat} (h : sDec x0 x1 x2 x3 n = some (c, k)) : ¬ cont x0 ∧ (1 < k → cont x1) ∧ (2 < k → cont x2) ∧ (3 < k → cont x3) ∧ k ≤ 4 := by
  unfold sDec at h
  unfold cont at *
  split at h
  · obtain ⟨rfl, rfl⟩ := Prod.mk.inj (Option.some.inj h); omega
  · split at h
    · obtain ⟨rfl, rfl⟩ := Prod.mk.inj (Option.some.inj h); omega
    · split at h
      · obtain ⟨rfl, rfl⟩ := Prod.mk.inj (Option.some.inj h); omega
      · split at h
        · obtain ⟨rfl, rfl⟩ := Prod.mk.inj (Option.some.inj h); omega
        · cases h
theorem rd_nat0 (m : List Int) : rd m 0 = rd m ((0 : Nat) : Int) := rfl
theorem uDec_take {m : List Int} {c : Int} {k : Nat} (h : uDec m = some (c, k)) (a : Nat) (ha : k ≤ a) (hk : 1 ≤ k) (hl : k ≤ m.length) : uDec (m.take a) = some (c, k) := by
  unfold uDec at *
  have r0 := rd_take m a 0 (by omega)
  rw [show ((0 : Nat) : Int) = 0 from rfl] at r0
  rw [r0]
  exact sDec_same h (by rw [List.length_take]; omega) (fun h => rd_take m a 1 (by omega)) (fun h => rd_take m a 2 (by omega)) (fun h => rd_take m a 3 (by omega))
theorem uDec_short {m : List Int} {c : Int} {k : Nat} (h : uDec m = some (c, k)) (a : Nat) (ha : a < k) (h1 : 1 ≤ a) (hl : k ≤ m.length) : uDec (m.take a) = none := by
  unfold uDec at *
  have r0 := rd_take m a 0 (by omega)
  rw [show ((0 : Nat) : Int) = 0 from rfl] at r0
  rw [r0]
  exact sDec_short h (by rw [List.length_take]; omega) (by rw [List.length_take]; omega)
theorem uDec_inner {m : List Int} {c : Int} {k : Nat} (h : uDec m = some (c, k)) (a : Nat) (ha : a < k) (h1 : 1 ≤ a) : cont (rd m (a : Int)) := by
  obtain ⟨_, h2, h3, h4, h5⟩ := sDec_inner h
  have : a = 1 ∨ a = 2 ∨ a = 3 := by omega
  rcases this with rfl | rfl | rfl
  · exact h2 (by omega)
  · exact h3 (by omega)
  · exact h4 (by omega)
theorem uDec_cont {m : List Int} (h : cont (rd m 0)) : uDec m = none := by
  cases he : uDec m with
  | none => rfl
  | some q => exact absurd h (sDec_inner he).1
theorem uCnt_more (d : Nat) : ∀ (e : Nat) (m : List Int), okB m → m.length ≤ d → d ≤ e → uCnt e m = uCnt d m := by
  induction d with
  | zero =>
    intro e m hok hm he
    have : m = [] := List.eq_nil_of_length_eq_zero (by omega)
    subst this
    cases e <;> simp [uCnt]
  | succ d ih =>
    intro e m hok hm he
    obtain ⟨e, rfl⟩ : ∃ e', e = e' + 1 := ⟨e - 1, by omega⟩
    unfold uCnt
    split
    · rfl
    · split
      · rfl
      · rename_i n hu
        have hw := uDec_width hok hu (by omega)
        rw [ih e _ (okB_drop hok n) (by rw [List.length_drop]; omega) (by omega)]
/-- Are bytes a name? -/
def isName (m : List Int) : Bool := (uCnt m.length m).isSome
theorem isName_at (d : Nat) (m : List Int) (hok : okB m) (h : m.length ≤ d) : isName m = (uCnt d m).isSome := by
  unfold isName
  rw [uCnt_more m.length d m hok (Nat.le_refl _) h]
theorem isName_cons {m : List Int} (hok : okB m) (hm : 1 ≤ m.length) {c : Int} {k : Nat} (h : uDec m = some (c, k)) : isName m = isName (m.drop k) := by
  have hw := uDec_width hok h hm
  obtain ⟨d, hd⟩ : ∃ d, m.length = d + 1 := ⟨m.length - 1, by omega⟩
  rw [isName_at (d + 1) m hok (by omega), isName_at d (m.drop k) (okB_drop hok k) (by rw [List.length_drop]; omega)]
  simp only [uCnt]
  rw [if_neg (by omega), h]
  simp
theorem isName_none {m : List Int} (hm : 1 ≤ m.length) (h : uDec m = none) : isName m = false := by
  obtain ⟨d, hd⟩ : ∃ d, m.length = d + 1 := ⟨m.length - 1, by omega⟩
  unfold isName
  rw [hd]
  simp only [uCnt]
  rw [if_neg (by omega), h]
  rfl
theorem isName_nil : isName [] = true := rfl
theorem cut_law (d : Nat) : ∀ (m : List Int) (a : Nat), okB m → m.length ≤ d → isName m = true → a < m.length →
    isName (m.take a) = !(decide (cont (rd m (a : Int)))) ∧ isName (m.drop a) = !(decide (cont (rd m (a : Int)))) := by
  induction d with
  | zero => intro m a _ h _ ha; omega
  | succ d ih =>
    intro m a hok hl hn ha
    cases he : uDec m with
    | none => rw [isName_none (by omega) he] at hn; cases hn
    | some q =>
      obtain ⟨c, k⟩ := q
      have hw := uDec_width hok he (by omega)
      by_cases h0 : a = 0
      · subst h0
        have hc : ¬ cont (rd m ((0 : Nat) : Int)) := (sDec_inner he).1
        rw [decide_eq_false hc, List.take_zero, List.drop_zero]
        exact ⟨isName_nil, hn⟩
      by_cases h1 : a < k
      · have hc := uDec_inner he a h1 (by omega)
        rw [decide_eq_true hc]
        refine ⟨isName_none (by rw [List.length_take]; omega) (uDec_short he a h1 (by omega) hw.2.1), isName_none (by rw [List.length_drop]; omega) (uDec_cont ?_)⟩
        have := rd_drop' m a 0
        rw [Nat.add_zero] at this
        rw [rd_nat0, this]
        exact hc
      · have hn2 : isName (m.drop k) = true := by rw [← isName_cons hok (by omega) he]; exact hn
        have hi := ih (m.drop k) (a - k) (okB_drop hok k) (by rw [List.length_drop]; omega) hn2 (by rw [List.length_drop]; omega)
        have hr := rd_drop' m k (a - k)
        rw [show k + (a - k) = a from by omega] at hr
        rw [hr, List.drop_drop, show k + (a - k) = a from by omega] at hi
        refine ⟨?_, hi.2⟩
        have ht := uDec_take he a (by omega) hw.1 hw.2.1
        rw [isName_cons (okB_take' hok a) (by rw [List.length_take]; omega) ht, ← hi.1, List.drop_take]
theorem low_count (d : Nat) : ∀ (m : List Int), okB m → m.length ≤ d → (∀ x ∈ m, x < 128) → uCnt d m = some (m.length : Int) := by
  induction d with
  | zero =>
    intro m _ h _
    have : m = [] := List.eq_nil_of_length_eq_zero (by omega)
    subst this
    rfl
  | succ d ih =>
    intro m hok hl hlow
    cases m with
    | nil => rfl
    | cons x r =>
      have hx := hlow x (by simp)
      have hu : uDec (x :: r) = some (x, 1) := by
        unfold uDec sDec
        rw [show rd (x :: r) 0 = x from rfl, if_pos hx]
      simp only [uCnt]
      rw [if_neg (by simp), hu]
      simp only [List.drop_succ_cons, List.drop_zero]
      rw [ih r (fun y hy => hok y (by simp [hy])) (by simp at hl; omega) (fun y hy => hlow y (by simp [hy]))]
      simp
end Go.Proofs.Ytjhdnlgbboboiaa.Utf
