/- Plain laws of what is read: forward or nowhere; of the bytes ahead alone; of bytes with others behind them. -/
import Derived.Test.YtjhdnlgbboboiaaMScanB
import Derived.Test.YtjhdnlgbboboiaaMScanD
namespace Go.Proofs.Ytjhdnlgbboboiaa.Scan
open Go.Proofs.Ytjhdnlgbboboiaa.Leb Go.Proofs.Ytjhdnlgbboboiaa.Mem Go.RowKit Go.Proofs.YtjhdnlgbboboiaaW.PrintWords Go.Proofs.YtjhdnlgbboboiaaW.PrintLast Go.Proofs.YtjhdnlgbboboiaaW.PrintMore Go.Proofs.Ytjhdnlgbboboiaa.Base
set_option linter.unusedVariables false
set_option linter.unusedSimpArgs false
/-- The bytes ahead are the same, with others behind them. -/
structure Ahead (l : List Int) (a : Int) (l' : List Int) (a' : Int) (m : List Int) : Prop where
  lo : 0 ≤ a
  hi : a ≤ (l.length : Int)
  lo' : 0 ≤ a'
  hi' : a' ≤ (l'.length : Int)
  eq : l'.drop a'.toNat = l.drop a.toNat ++ m
section
variable {l l' m : List Int} {a a' : Int}
theorem Ahead.len (h : Ahead l a l' a' m) : (l'.length : Int) - a' = (l.length : Int) - a + (m.length : Int) := by
  have := congrArg List.length h.eq
  rw [List.length_append, List.length_drop, List.length_drop] at this
  have := h.lo; have := h.hi; have := h.lo'; have := h.hi'
  omega
theorem Ahead.next (h : Ahead l a l' a' m) (x : Int) (h0 : a ≤ x) (h1 : x ≤ (l.length : Int)) : Ahead l x l' (x - a + a') m := by
  have L := h.len
  have := h.lo; have := h.hi; have := h.lo'; have := h.hi'
  refine ⟨by omega, h1, by omega, by omega, ?_⟩
  have e1 : (x - a + a').toNat = a'.toNat + (x - a).toNat := by omega
  have e2 : x.toNat = a.toNat + (x - a).toNat := by omega
  rw [e1, ← List.drop_drop, h.eq, List.drop_append_of_le_length (by rw [List.length_drop]; omega), List.drop_drop, ← e2]
theorem Ahead.same (h0 : 0 ≤ a) (h1 : a ≤ (l.length : Int)) : Ahead l a (l ++ m) a m := ⟨h0, h1, h0, by rw [List.length_append]; omega, List.drop_append_of_le_length (by omega)⟩
theorem Ahead.cut (h0 : 0 ≤ a) (h1 : a ≤ (l.length : Int)) : Ahead l a (l.drop a.toNat) 0 [] := ⟨h0, h1, Int.le_refl _, Int.natCast_nonneg _, by simp⟩
theorem Ahead.behind : Ahead m 0 (l ++ m) (l.length : Int) [] := ⟨Int.le_refl _, Int.natCast_nonneg _, Int.natCast_nonneg _, by rw [List.length_append]; omega, by simp⟩
end
/-- What two runs have in common: all, or the shorter one wanted more. -/
def Alike {α : Type} (m : List Int) (a a' : Int) (r r' : α × Int × Int) : Prop := (m ≠ [] ∧ r.2.2 = 100) ∨ (r'.1 = r.1 ∧ r'.2.1 - a' = r.2.1 - a ∧ r'.2.2 = r.2.2)
structure Acts {α : Type} (f : List Int → Int → Int → α × Int × Int) : Prop where
  stick : ∀ l a e, e ≠ 0 → (f l a e).2.2 = e
  fwd : ∀ l a e, 0 ≤ a → a ≤ (l.length : Int) → a ≤ (f l a e).2.1 ∧ (f l a e).2.1 ≤ (l.length : Int)
  join : ∀ l a l' a' m e, Ahead l a l' a' m → Alike m a a' (f l a e) (f l' a' e)
structure Acts0 {α : Type} (f : List Int → Int → α × Int × Int) : Prop where
  fwd : ∀ l a, 0 ≤ a → a ≤ (l.length : Int) → a ≤ (f l a).2.1 ∧ (f l a).2.1 ≤ (l.length : Int)
  join : ∀ l a l' a' m, Ahead l a l' a' m → Alike m a a' (f l a) (f l' a')
section
variable {α β : Type}
theorem Acts.zero {f : List Int → Int → Int → α × Int × Int} (h : Acts f) : Acts0 (fun l a => f l a 0) := ⟨fun l a => h.fwd l a 0, fun l a l' a' m => h.join l a l' a' m 0⟩
theorem Acts0.congr {f g : List Int → Int → α × Int × Int} (h : Acts0 f) (e : ∀ l a, g l a = f l a) : Acts0 g := by
  have : g = f := funext fun l => funext fun a => e l a
  rw [this]; exact h
theorem Acts.congr {f g : List Int → Int → Int → α × Int × Int} (h : Acts f) (e : ∀ l a x, g l a x = f l a x) : Acts g := by
  have : g = f := funext fun l => funext fun a => funext fun x => e l a x
  rw [this]; exact h
theorem Acts.pure (v : α) : Acts (fun _ a e => (v, a, e)) := ⟨fun _ _ _ _ => rfl, fun _ _ _ _ h => ⟨Int.le_refl _, h⟩, fun _ _ _ _ _ _ _ => .inr ⟨rfl, by simp, rfl⟩⟩
theorem Acts.fail (er : Int) (v : α) : Acts (fun _ a e => (v, a, fl er e)) := ⟨fun _ _ _ h => if_neg h, fun _ _ _ _ h => ⟨Int.le_refl _, h⟩, fun _ _ _ _ _ _ _ => .inr ⟨rfl, by simp, rfl⟩⟩
theorem Acts.bind {f : List Int → Int → Int → α × Int × Int} {k : α → List Int → Int → Int → β × Int × Int} (hf : Acts f) (hk : ∀ l a e, Acts (k (f l a e).1)) : Acts (fun l a e => k (f l a e).1 l (f l a e).2.1 (f l a e).2.2) := by
  refine ⟨fun l a e he => ?_, fun l a e h0 h1 => ?_, fun l a l' a' m e h => ?_⟩
  · rw [(hk l a e).stick _ _ _ (by rw [hf.stick l a e he]; exact he), hf.stick l a e he]
  · have h2 := hf.fwd l a e h0 h1
    have h3 := (hk l a e).fwd l (f l a e).2.1 (f l a e).2.2 (Int.le_trans h0 h2.1) h2.2
    exact ⟨Int.le_trans h2.1 h3.1, h3.2⟩
  · rcases hf.join l a l' a' m e h with ⟨hm, h100⟩ | ⟨e1, e2, e3⟩
    · left
      refine ⟨hm, ?_⟩
      show (k (f l a e).1 l (f l a e).2.1 (f l a e).2.2).2.2 = 100
      rw [(hk l a e).stick _ _ _ (by rw [h100]; decide), h100]
    · have h2 := hf.fwd l a e h.lo h.hi
      have hn := h.next _ h2.1 h2.2
      have e4 : (f l' a' e).2.1 = (f l a e).2.1 - a + a' := by omega
      have J := (hk l a e).join l _ l' _ m (f l a e).2.2 hn
      show Alike m a a' (k (f l a e).1 l (f l a e).2.1 (f l a e).2.2) (k (f l' a' e).1 l' (f l' a' e).2.1 (f l' a' e).2.2)
      rw [e1, e3, e4]
      rcases J with J | ⟨j1, j2, j3⟩
      · exact .inl J
      · exact .inr ⟨j1, by omega, j3⟩
theorem Acts.ite {f g : List Int → Int → Int → α × Int × Int} (hf : Acts f) (hg : Acts g) : Acts (fun l a e => if e = 0 then f l a e else g l a e) := by
  refine ⟨fun l a e he => ?_, fun l a e h0 h1 => ?_, fun l a l' a' m e h => ?_⟩
  · simp only [if_neg he]; exact hg.stick l a e he
  · by_cases he : e = 0
    · simp only [if_pos he]; exact hf.fwd l a e h0 h1
    · simp only [if_neg he]; exact hg.fwd l a e h0 h1
  · by_cases he : e = 0
    · simp only [if_pos he]; exact hf.join l a l' a' m e h
    · simp only [if_neg he]; exact hg.join l a l' a' m e h
theorem Acts.map {f : List Int → Int → Int → α × Int × Int} (hf : Acts f) (p : α → β) : Acts (fun l a e => (p (f l a e).1, (f l a e).2)) := hf.bind (k := fun v _ a e => (p v, a, e)) fun _ _ _ => .pure _
theorem Acts0.reads {f : List Int → Int → α × Int × Int} (hf : Acts0 f) (z : α) : Acts (fun l a e => readsM z (f l a) a e) := by
  refine ⟨fun l a e he => ?_, fun l a e h0 h1 => ?_, fun l a l' a' m e h => ?_⟩
  · unfold readsM; rw [if_neg he]
  · have h2 := hf.fwd l a h0 h1
    unfold readsM rM
    repeat' split
    all_goals (first | omega | (simp only; omega))
  · by_cases he : e = 0
    · unfold readsM
      rw [if_pos he, if_pos he]
      unfold rM
      rcases hf.join l a l' a' m h with ⟨hm, h100⟩ | ⟨e1, e2, e3⟩
      · left
        refine ⟨hm, ?_⟩
        rw [if_neg (by rw [h100]; decide)]
        exact h100
      · rw [e3]
        by_cases hq : (f l a).2.2 = 0
        · rw [if_pos hq, if_pos hq]
          exact .inr ⟨e1, e2, e3⟩
        · rw [if_neg hq, if_neg hq]
          exact .inr ⟨rfl, by simp, rfl⟩
    · unfold readsM
      rw [if_neg he, if_neg he]
      exact .inr ⟨rfl, by simp, rfl⟩
end
theorem Ahead.first {l l' m : List Int} {a a' : Int} (h : Ahead l a l' a' m) (hl : a < (l.length : Int)) : rd l' a' = rd l a := by
  have L := h.len
  have := h.lo; have := h.lo'
  have e := h.eq
  rw [drop_cons l a.toNat (by omega), drop_cons l' a'.toNat (by omega)] at e
  have e1 : ((a.toNat : Nat) : Int) = a := by omega
  have e2 : ((a'.toNat : Nat) : Int) = a' := by omega
  rw [e1, e2, List.cons_append] at e
  exact (List.cons.inj e).1
theorem byteB_acts : Acts0 byteB := by
  refine ⟨fun l a h0 h1 => ?_, fun l a l' a' m h => ?_⟩
  · unfold byteB; split <;> (simp only; omega)
  · have L := h.len
    unfold byteB
    by_cases c : 1 > (l.length : Int) - a
    · rw [if_pos c]
      by_cases hm : m = []
      · rw [hm] at L
        rw [if_pos (by simp only [List.length_nil] at L; omega)]
        exact .inr ⟨rfl, by simp, rfl⟩
      · exact .inl ⟨hm, rfl⟩
    · rw [if_neg c, if_neg (by omega)]
      exact .inr ⟨h.first (by omega), by simp only; omega, rfl⟩
theorem takeB_acts (n : Int) (hn : 0 ≤ n) : Acts0 (fun l a => takeB l n a) := by
  refine ⟨fun l a h0 h1 => ?_, fun l a l' a' m h => ?_⟩
  · unfold takeB; split <;> (simp only; omega)
  · have L := h.len
    show Alike m a a' (takeB l n a) (takeB l' n a')
    unfold takeB
    by_cases c : n > (l.length : Int) - a
    · rw [if_pos c]
      by_cases hm : m = []
      · rw [hm] at L
        rw [if_pos (by simp only [List.length_nil] at L; omega)]
        exact .inr ⟨rfl, by simp, rfl⟩
      · exact .inl ⟨hm, rfl⟩
    · rw [if_neg c, if_neg (by omega)]
      refine .inr ⟨?_, by simp only; omega, rfl⟩
      show (l'.drop a'.toNat).take n.toNat = (l.drop a.toNat).take n.toNat
      rw [h.eq, List.take_append_of_le_length (by rw [List.length_drop]; have := h.lo; omega)]
theorem fixedB_acts (n : Int) : Acts0 (fixedB n) := by
  refine ⟨fun l a h0 h1 => ?_, fun l a l' a' m h => ?_⟩
  · unfold fixedB
    repeat' split
    all_goals (simp only; omega)
  · have L := h.len
    unfold fixedB
    by_cases c0 : n ≠ 4 ∧ n ≠ 8
    · rw [if_pos c0, if_pos c0]
      exact .inr ⟨rfl, by simp, rfl⟩
    rw [if_neg c0, if_neg c0]
    by_cases c : n > (l.length : Int) - a
    · rw [if_pos c]
      by_cases hm : m = []
      · rw [hm] at L
        rw [if_pos (by simp only [List.length_nil] at L; omega)]
        exact .inr ⟨rfl, by simp, rfl⟩
      · exact .inl ⟨hm, rfl⟩
    · rw [if_neg c, if_neg (by omega)]
      refine .inr ⟨?_, by simp only; omega, rfl⟩
      simp only
      rw [h.eq, List.take_append_of_le_length (by rw [List.length_drop]; have := h.lo; omega)]
theorem scanL_join (L : Int → Int → Bool) (m : List Int) : ∀ (xs : List Int) (a a' n hv lf : Int), (m ≠ [] ∧ (scanL L xs a n hv lf).2.2.2.2 = 100) ∨
    ((scanL L (xs ++ m) a' n hv lf).1 = (scanL L xs a n hv lf).1 ∧ (scanL L (xs ++ m) a' n hv lf).2.1 = (scanL L xs a n hv lf).2.1 ∧ (scanL L (xs ++ m) a' n hv lf).2.2.2.2 = (scanL L xs a n hv lf).2.2.2.2 ∧
      ((scanL L xs a n hv lf).2.2.2.2 = 0 → (scanL L (xs ++ m) a' n hv lf).2.2.2.1 - a' = (scanL L xs a n hv lf).2.2.2.1 - a))
  | [], a, a', n, hv, lf => by
    by_cases hm : m = []
    · right
      subst hm
      exact ⟨rfl, rfl, rfl, fun h => by simp [scanL] at h⟩
    · exact .inl ⟨hm, rfl⟩
  | x :: xs, a, a', n, hv, lf => by
    rw [List.cons_append]
    unfold scanL
    by_cases c1 : x < 128
    · rw [if_pos c1, if_pos c1]
      by_cases c2 : L x lf = true
      · rw [if_pos c2, if_pos c2]
        exact .inr ⟨rfl, rfl, rfl, fun _ => by simp only; omega⟩
      · rw [if_neg c2, if_neg c2]
        exact .inr ⟨rfl, rfl, rfl, fun h => by simp at h⟩
    · rw [if_neg c1, if_neg c1]
      by_cases c2 : lf ≤ 7
      · rw [if_pos c2, if_pos c2]
        exact .inr ⟨rfl, rfl, rfl, fun h => by simp at h⟩
      · rw [if_neg c2, if_neg c2]
        rcases scanL_join L m xs (a + 1) (a' + 1) (seriesN n x hv) (hv + 7) (lf - 7) with h | ⟨h1, h2, h3, h4⟩
        · exact .inl h
        · exact .inr ⟨h1, h2, h3, fun h => by have := h4 h; omega⟩
theorem scanF_join (L : Int → Int → Bool) {l l' m : List Int} {a a' : Int} (h : Ahead l a l' a' m) (b : Int) : (m ≠ [] ∧ (scanF L l a b).2.2.2.2 = 100) ∨
    ((scanF L l' a' b).1 = (scanF L l a b).1 ∧ (scanF L l' a' b).2.1 = (scanF L l a b).2.1 ∧ (scanF L l' a' b).2.2.2.2 = (scanF L l a b).2.2.2.2 ∧
      ((scanF L l a b).2.2.2.2 = 0 → (scanF L l' a' b).2.2.2.1 - a' = (scanF L l a b).2.2.2.1 - a)) := by
  have := h.lo; have := h.hi; have := h.lo'; have := h.hi'
  unfold scanF
  by_cases c : b < 1 ∨ b > 64
  · rw [if_pos (by omega), if_pos (by omega)]
    exact .inr ⟨rfl, rfl, rfl, fun h => by simp at h⟩
  · rw [if_neg (by omega), if_neg (by omega), h.eq]
    exact scanL_join L m _ a a' 0 0 b
theorem uM_join {l l' m : List Int} {a a' : Int} (h : Ahead l a l' a' m) (b : Int) : (m ≠ [] ∧ (uM l a b).2.2 = 100) ∨ ((uM l' a' b).1 = (uM l a b).1 ∧ (uM l' a' b).2.2 = (uM l a b).2.2 ∧ ((uM l a b).2.2 = 0 → (uM l' a' b).2.1 - a' = (uM l a b).2.1 - a)) := by
  unfold uM uintR
  rcases scanF_join LU h b with h | ⟨h1, h2, h3, h4⟩
  · exact .inl h
  · exact .inr ⟨h1, h3, h4⟩
theorem sM_join {l l' m : List Int} {a a' : Int} (h : Ahead l a l' a' m) (b : Int) : (m ≠ [] ∧ (sM l a b).2.2 = 100) ∨ ((sM l' a' b).1 = (sM l a b).1 ∧ (sM l' a' b).2.2 = (sM l a b).2.2 ∧ ((sM l a b).2.2 = 0 → (sM l' a' b).2.1 - a' = (sM l a b).2.1 - a)) := by
  unfold sM sintR
  rcases scanF_join LS h b with ⟨hm, h⟩ | ⟨h1, h2, h3, h4⟩
  · exact .inl ⟨hm, by rw [if_neg (by rw [h]; decide)]; exact h⟩
  · right
    rw [h1, h2, h3]
    by_cases c : (scanF LS l a b).2.2.2.2 = 0
    · rw [if_pos c, if_pos c]
      exact ⟨rfl, rfl, fun _ => h4 c⟩
    · rw [if_neg c, if_neg c]
      exact ⟨rfl, rfl, fun h => absurd h c⟩
theorem num_acts (F : List Int → Int → Int × Int × Int) (p : Int → Int) (hat : ∀ l a, (F l a).2.2 = 0 → 0 ≤ a ∧ a < (F l a).2.1 ∧ (F l a).2.1 ≤ (l.length : Int))
    (hj : ∀ l a l' a' m, Ahead l a l' a' m → (m ≠ [] ∧ (F l a).2.2 = 100) ∨ ((F l' a').1 = (F l a).1 ∧ (F l' a').2.2 = (F l a).2.2 ∧ ((F l a).2.2 = 0 → (F l' a').2.1 - a' = (F l a).2.1 - a))) :
    Acts0 (fun l a => if (F l a).2.2 = 0 then (p (F l a).1, (F l a).2.1, 0) else (0, a, (F l a).2.2)) := by
  refine ⟨fun l a h0 h1 => ?_, fun l a l' a' m h => ?_⟩
  · by_cases c : (F l a).2.2 = 0
    · have := hat l a c
      simp only [if_pos c]; omega
    · simp only [if_neg c]; omega
  · rcases hj l a l' a' m h with ⟨hm, h1⟩ | ⟨h1, h2, h3⟩
    · left
      refine ⟨hm, ?_⟩
      simp only [if_neg (show ¬ (F l a).2.2 = 0 by rw [h1]; decide)]
      exact h1
    · right
      by_cases c : (F l a).2.2 = 0
      · have c' : (F l' a').2.2 = 0 := h2.trans c
        simp only [if_pos c, if_pos c']
        exact ⟨by rw [h1], h3 c, trivial⟩
      · have c' : ¬ (F l' a').2.2 = 0 := by rw [h2]; exact c
        simp only [if_neg c, if_neg c']
        exact ⟨trivial, by simp, h2⟩
theorem byteM_acts : Acts byteM := byteB_acts.reads 0
theorem u32M_acts : Acts u32M := ((num_acts (fun l a => uM l a 32) (· % 4294967296) (fun l a => uM_at l a 32) (fun _ _ _ _ _ h => uM_join h 32)).congr (g := u32B) fun _ _ => rfl).reads 0
theorem s32M_acts : Acts s32M := ((num_acts (fun l a => sM l a 32) (· % 4294967296) (fun l a => sM_at l a 32) (fun _ _ _ _ _ h => sM_join h 32)).congr (g := s32B) fun _ _ => rfl).reads 0
theorem s64M_acts : Acts s64M := ((num_acts (fun l a => sM l a 64) (fun x => x) (fun l a => sM_at l a 64) (fun _ _ _ _ _ h => sM_join h 64)).congr (g := s64B) fun _ _ => rfl).reads 0
theorem fixedM_acts (n : Int) : Acts (fixedM n) := (fixedB_acts n).reads 0
theorem takeM_acts (n : Int) (hn : 0 ≤ n) : Acts (fun l a e => takeM l n a e) := (takeB_acts n hn).reads []
theorem nameM_acts : Acts nameM := by
  refine Acts0.reads (f := nameB) ?_ []
  have h1 : Acts (fun l a e => takeM l (u32M l a e).1 (u32M l a e).2.1 (u32M l a e).2.2) := u32M_acts.bind (k := fun v l a e => takeM l v a e) fun l a e => takeM_acts _ (u32M_range l a e).1
  have h2 := h1.bind (k := fun v l a e => if V v = false then (v, a, fl 102 e) else (v, a, e)) fun l a e => by
    by_cases c : V (takeM l (u32M l a e).1 (u32M l a e).2.1 (u32M l a e).2.2).1 = false
    · simp only [if_pos c]; exact .fail 102 _
    · simp only [if_neg c]; exact .pure _
  refine h2.zero.congr fun l a => ?_
  unfold nameB fl
  obtain ⟨⟨v, x, y⟩, hr⟩ : ∃ r, r = takeM l (u32M l a 0).1 (u32M l a 0).2.1 (u32M l a 0).2.2 := ⟨_, rfl⟩
  simp only [← hr]
  by_cases c : V v = false
  · by_cases c2 : y = 0
    · simp only [if_pos c, if_pos c2, if_pos (And.intro c2 c)]
    · simp only [if_pos c, if_neg c2, if_neg (fun h : y = 0 ∧ V v = false => c2 h.1)]
  · simp only [if_neg c, if_neg (fun h : y = 0 ∧ V v = false => c h.2)]
theorem countM_acts : Acts countM := by
  refine Acts0.reads (f := countB) ?_ 0
  have h2 := u32M_acts.bind (k := fun v l a e => if v > 4096 then (v, a, fl 3 e) else (v, a, e)) fun l a e => by
    by_cases c : (u32M l a e).1 > 4096
    · simp only [if_pos c]; exact .fail 3 _
    · simp only [if_neg c]; exact .pure _
  refine h2.zero.congr fun l a => ?_
  unfold countB
  by_cases c : (u32M l a 0).1 > 4096
  · simp only [if_pos c]
  · simp only [if_neg c]
theorem amongM_acts (er : Int) (L : List Int) : Acts (amongM er L) := by
  refine Acts0.reads (f := amongB er L) ?_ 0
  have h2 := byteM_acts.bind (k := fun v l a e => if v ∈ L then (v, a, e) else ((0 : Int), a, fl er e)) fun l a e => by
    by_cases c : (byteM l a e).1 ∈ L
    · simp only [if_pos c]; exact .pure _
    · simp only [if_neg c]; exact .fail er _
  refine h2.zero.congr fun l a => ?_
  unfold amongB
  by_cases c : (byteM l a 0).1 ∈ L
  · simp only [if_pos c]
  · simp only [if_neg c]
theorem valueM_acts : Acts valueM := amongM_acts _ _
theorem resultsM_acts : Acts resultsM := (amongM_acts 106 [127, 126, 125, 124, 64]).map (fun v => if v = 64 then 0 else v)
theorem limitsM_acts : Acts limitsM := by
  refine Acts0.reads (f := limitsB) ?_ (0, 0, false)
  have h2 := (amongM_acts 107 [0, 1]).bind (k := fun h l a e => (fun l a e => (fun m l a e => if h = 1 then (((m, (u32M l a e).1, true) : Lim), (u32M l a e).2) else ((m, 0, false), a, e)) (u32M l a e).1 l (u32M l a e).2.1 (u32M l a e).2.2) l a e) fun l a e => by
    refine u32M_acts.bind (k := fun m l a e => if _ = 1 then (((m, (u32M l a e).1, true) : Lim), (u32M l a e).2) else ((m, 0, false), a, e)) fun l2 a2 e2 => ?_
    by_cases c : (amongM 107 [0, 1] l a e).1 = 1
    · simp only [if_pos c]
      exact u32M_acts.map (fun v => (((u32M l2 a2 e2).1, v, true) : Lim))
    · simp only [if_neg c]
      exact .pure _
  refine h2.zero.congr fun l a => ?_
  unfold limitsB
  by_cases c : (amongM 107 [0, 1] l a 0).1 = 1
  · simp only [if_pos c]
  · simp only [if_neg c]
theorem globalM_acts : Acts globalM := by
  refine Acts0.reads (f := globalB) ?_ (0, false)
  exact (valueM_acts.bind (k := fun t l a e => (((t, (amongM 107 [0, 1] l a e).1 == 1) : Int × Bool), (amongM 107 [0, 1] l a e).2)) fun l a e => (amongM_acts 107 [0, 1]).map (fun v => (((valueM l a e).1, v == 1) : Int × Bool))).zero.congr fun l a => rfl
theorem tableM_acts : Acts tableM := by
  refine Acts0.reads (f := tableB) ?_ (0, 0, false)
  exact ((amongM_acts 106 [112]).bind (k := fun _ l a e => limitsM l a e) fun l a e => limitsM_acts).zero.congr fun l a => rfl
theorem listL_acts : ∀ (k : Nat) (out : List Int), Acts (fun l a e => listL l k out a e)
  | 0, out => Acts.pure out
  | k + 1, out => by
    have h1 := valueM_acts.bind (k := fun v l a e => listL l k (out ++ [v]) a e) fun l a e => listL_acts k (out ++ [(valueM l a e).1])
    exact (h1.ite (.pure out)).congr fun l a e => rfl
theorem listM_acts : Acts listM := (countM_acts.bind (k := fun v l a e => listL l v.toNat [] a e) fun l a e => listL_acts _ _).congr fun l a e => rfl
theorem funcM_acts : Acts funcM := by
  refine Acts0.reads (f := funcB) ?_ ([], [])
  exact ((amongM_acts 107 [96]).bind (k := fun _ l a e => (fun l a e => (fun p l a e => (((p, (listM l a e).1) : List Int × List Int), (listM l a e).2)) (listM l a e).1 l (listM l a e).2.1 (listM l a e).2.2) l a e) fun l a e =>
    listM_acts.bind (k := fun p l a e => (((p, (listM l a e).1) : List Int × List Int), (listM l a e).2)) fun l a e => listM_acts.map (fun q => (((listM l a e).1, q) : List Int × List Int))).zero.congr fun l a => rfl
/-- What has failed stays where it was. -/
structure Holds {α : Type} (f : List Int → Int → Int → α × Int × Int) : Prop where
  acts : Acts f
  off : ∀ l a e, e ≠ 0 → (f l a e).2 = (a, e)
  back : ∀ l a, (f l a 0).2.2 ≠ 0 → (f l a 0).2.1 = a
theorem reads_off {α : Type} (z : α) (r : α × Int × Int) (a e : Int) (h : e ≠ 0) : (readsM z r a e).2 = (a, e) := by unfold readsM; rw [if_neg h]
theorem reads_back {α : Type} (z : α) (r : α × Int × Int) (a : Int) (h : (readsM z r a 0).2.2 ≠ 0) : (readsM z r a 0).2.1 = a := by
  unfold readsM rM at h ⊢
  rw [if_pos rfl] at h ⊢
  by_cases c : r.2.2 = 0
  · rw [if_pos c] at h; exact absurd c h
  · rw [if_neg c]
def clampT (n : Int) : Int := min (max n 0) 2147483648
theorem clampT_range (n : Int) : 0 ≤ clampT n ∧ clampT n < 4294967296 := by unfold clampT; omega
theorem byte_holds : Holds byteM := ⟨byteM_acts, fun _ _ _ h => reads_off _ _ _ _ h, fun _ _ h => reads_back _ _ _ h⟩
theorem u32_holds : Holds u32M := ⟨u32M_acts, fun _ _ _ h => reads_off _ _ _ _ h, fun _ _ h => reads_back _ _ _ h⟩
theorem s32_holds : Holds s32M := ⟨s32M_acts, fun _ _ _ h => reads_off _ _ _ _ h, fun _ _ h => reads_back _ _ _ h⟩
theorem s64_holds : Holds s64M := ⟨s64M_acts, fun _ _ _ h => reads_off _ _ _ _ h, fun _ _ h => reads_back _ _ _ h⟩
theorem fixed_holds (n : Int) : Holds (fixedM n) := ⟨fixedM_acts n, fun _ _ _ h => reads_off _ _ _ _ h, fun _ _ h => reads_back _ _ _ h⟩
theorem take_holds (n : Int) : Holds (fun l a e => takeM l (clampT n) a e) := ⟨takeM_acts _ (clampT_range n).1, fun _ _ _ h => reads_off _ _ _ _ h, fun _ _ h => reads_back _ _ _ h⟩
theorem name_holds : Holds nameM := ⟨nameM_acts, fun _ _ _ h => reads_off _ _ _ _ h, fun _ _ h => reads_back _ _ _ h⟩
theorem count_holds : Holds countM := ⟨countM_acts, fun _ _ _ h => reads_off _ _ _ _ h, fun _ _ h => reads_back _ _ _ h⟩
theorem among_holds (er : Int) (L : List Int) : Holds (amongM er L) := ⟨amongM_acts er L, fun _ _ _ h => reads_off _ _ _ _ h, fun _ _ h => reads_back _ _ _ h⟩
theorem value_holds : Holds valueM := among_holds _ _
theorem results_holds : Holds resultsM := ⟨resultsM_acts, fun l a e h => (among_holds 106 [127, 126, 125, 124, 64]).off l a e h, fun l a h => (among_holds 106 [127, 126, 125, 124, 64]).back l a h⟩
theorem limits_holds : Holds limitsM := ⟨limitsM_acts, fun _ _ _ h => reads_off _ _ _ _ h, fun _ _ h => reads_back _ _ _ h⟩
theorem global_holds : Holds globalM := ⟨globalM_acts, fun _ _ _ h => reads_off _ _ _ _ h, fun _ _ h => reads_back _ _ _ h⟩
theorem table_holds : Holds tableM := ⟨tableM_acts, fun _ _ _ h => reads_off _ _ _ _ h, fun _ _ h => reads_back _ _ _ h⟩
theorem func_holds : Holds funcM := ⟨funcM_acts, fun _ _ _ h => reads_off _ _ _ _ h, fun _ _ h => reads_back _ _ _ h⟩
def failN (n : Int) : Int := max 0 (min n 1000)
/-- Where an op leaves the cursor. -/
def opM (k n : Int) (l : List Int) (a e : Int) : Int × Int :=
  if k = 1 then (byteM l a e).2 else if k = 2 then (u32M l a e).2 else if k = 3 then (s32M l a e).2 else if k = 4 then (s64M l a e).2 else if k = 5 then (fixedM n l a e).2
  else if k = 6 then (takeM l (clampT n) a e).2 else if k = 7 then (nameM l a e).2 else if k = 8 then (countM l a e).2 else if k = 9 then (valueM l a e).2 else if k = 10 then (resultsM l a e).2
  else if k = 11 then (limitsM l a e).2 else if k = 12 then (globalM l a e).2 else if k = 13 then (tableM l a e).2 else if k = 14 then (funcM l a e).2
  else if k = 15 then (if failN n = 0 then (a, e) else (a, fl (failN n) e)) else (a, e)
def wrap2 (f : List Int → Int → Int → Int × Int) (l : List Int) (a e : Int) : Unit × Int × Int := ((), f l a e)
theorem Holds.two {α : Type} {f : List Int → Int → Int → α × Int × Int} (h : Holds f) : Holds (wrap2 fun l a e => (f l a e).2) := ⟨h.acts.map (fun _ => ()), h.off, h.back⟩
theorem stay_holds : Holds (wrap2 fun _ a e => (a, e)) := ⟨.pure (), fun _ _ _ _ => rfl, fun _ _ _ => rfl⟩
/-- Any op but Fail goes forward or nowhere, and reads the bytes ahead alone. -/
theorem op_holds (k n : Int) (hk : k ≠ 15) : Holds (wrap2 (opM k n)) := by
  by_cases c1 : k = 1
  · subst c1; exact byte_holds.two
  by_cases c2 : k = 2
  · subst c2; exact u32_holds.two
  by_cases c3 : k = 3
  · subst c3; exact s32_holds.two
  by_cases c4 : k = 4
  · subst c4; exact s64_holds.two
  by_cases c5 : k = 5
  · subst c5; exact (fixed_holds n).two
  by_cases c6 : k = 6
  · subst c6; exact (take_holds n).two
  by_cases c7 : k = 7
  · subst c7; exact name_holds.two
  by_cases c8 : k = 8
  · subst c8; exact count_holds.two
  by_cases c9 : k = 9
  · subst c9; exact value_holds.two
  by_cases c10 : k = 10
  · subst c10; exact results_holds.two
  by_cases c11 : k = 11
  · subst c11; exact limits_holds.two
  by_cases c12 : k = 12
  · subst c12; exact global_holds.two
  by_cases c13 : k = 13
  · subst c13; exact table_holds.two
  by_cases c14 : k = 14
  · subst c14; exact func_holds.two
  have e : opM k n = fun _ a e => (a, e) := by
    funext l a e
    unfold opM
    rw [if_neg c1, if_neg c2, if_neg c3, if_neg c4, if_neg c5, if_neg c6, if_neg c7, if_neg c8, if_neg c9, if_neg c10, if_neg c11, if_neg c12, if_neg c13, if_neg c14, if_neg hk]
  rw [e]
  exact stay_holds
end Go.Proofs.Ytjhdnlgbboboiaa.Scan

/- The walk of small by a cursor that is none, beside a reader that has failed. -/
namespace Go.Proofs.Ytjhdnlgbboboiaa.Scan
open Go.Proofs.Ytjhdnlgbboboiaa.Leb Go.Proofs.Ytjhdnlgbboboiaa.Mem Go.RowKit Go.Proofs.YtjhdnlgbboboiaaW.PrintWords Go.Proofs.YtjhdnlgbboboiaaW.PrintLast Go.Proofs.YtjhdnlgbboboiaaW.PrintMore Go.Proofs.Ytjhdnlgbboboiaa.Base
set_option linter.unusedVariables false
set_option linter.unusedSimpArgs false
/-- What an op by a cursor that is none leaves, where the reader has failed. -/
def NilP (w : World) (r : Nat) (A' : Option Addr) (c' : Nat) (l' : List Int) (a' e' : Int) (en : Ending) (w' : World) : Prop := en = .returned (.bool true) ∧ w.grownBy w' (some r) ∧ Rdr w' r A' c' l' a' e'
section
variable {w w1 w2 W W' : World} {r c' : Nat} {A' : Option Addr} {l' : List Int} {a' e' : Int}
theorem str_nil : (strOfNums []).toList.isEmpty = true := by first | rfl | decide | simp [strOfNums]
theorem lim_off (he : e' ≠ 0) : limitsM l' a' e' = ((0, 0, false), a', e') := if_neg he
theorem tab_off (he : e' ≠ 0) : tableM l' a' e' = ((0, 0, false), a', e') := if_neg he
theorem glo_off (he : e' ≠ 0) : globalM l' a' e' = ((0, false), a', e') := if_neg he
theorem fun_off (he : e' ≠ 0) : funcM l' a' e' = (([], []), a', e') := if_neg he
theorem byte_off (he : e' ≠ 0) : byteM l' a' e' = (0, a', e') := if_neg he
theorem u32_off (he : e' ≠ 0) : u32M l' a' e' = (0, a', e') := if_neg he
theorem s32_off (he : e' ≠ 0) : s32M l' a' e' = (0, a', e') := if_neg he
theorem s64_off (he : e' ≠ 0) : s64M l' a' e' = (0, a', e') := if_neg he
theorem fix_off (he : e' ≠ 0) (n : Int) : fixedM n l' a' e' = (0, a', e') := if_neg he
theorem take_off (he : e' ≠ 0) (n : Int) : takeM l' n a' e' = ([], a', e') := if_neg he
theorem name_off (he : e' ≠ 0) : nameM l' a' e' = ([], a', e') := if_neg he
theorem count_off (he : e' ≠ 0) : countM l' a' e' = (0, a', e') := if_neg he
theorem value_off (he : e' ≠ 0) : valueM l' a' e' = (0, a', e') := if_neg he
theorem results_off (he : e' ≠ 0) : resultsM l' a' e' = (0, a', e') := by
  unfold resultsM
  rw [show amongM 106 [127, 126, 125, 124, 64] l' a' e' = (0, a', e') from if_neg he]
  rfl
set_option maxRecDepth 100000 in
set_option maxHeartbeats 1000000 in
theorem small_nil_1 (h : Rdr w r A' c' l' a' e') (h6 : l'.length ≤ 6000) (he : e' ≠ 0) (n : Int) : Calls Try.prog 62 #[.pointer none, .pointer (some ⟨r, 0, none⟩), .agg #[.int .i64 1, .int .i64 n]] w (NilP w r A' c' l' a' e') := by
  have hb := below_alloc (Below.refl w.heap.size w) (.cells #[.int .i64 1, .int .i64 n] 59)
  have hu86 := Try.underlying86
  have CC := Aside0.mk (Byte_nil (w.alloc (.cells #[.int .i64 1, .int .i64 n] 59)))
  have RC := fun (W : World) (hW : Below (w.alloc (.cells #[.int .i64 1, .int .i64 n] 59)).heap.size (w.alloc (.cells #[.int .i64 1, .int .i64 n] 59)) W) => RByte_calls (h.below (below_then hb (by rw [World.size_alloc]; omega) hW))
  simp only [byte_off he] at RC
  replace RC := Aside0.mk RC
  have GB := Aside0.mk (fun (W : World) (hW : Below (w.alloc (.cells #[.int .i64 1, .int .i64 n] 59)).heap.size (w.alloc (.cells #[.int .i64 1, .int .i64 n] 59)) W) => grown_of_below (below_then hb (by rw [World.size_alloc]; omega) hW) (some r))
  clear h hb he h6
  go_enter Try.func62, Try.ntmps62
  go_wp2_with (first
    | (go_at_call 82; refine CC.out.mono ?_; rintro e1 w1 ⟨rfl, hb⟩; have RC1 := Aside0.mk (RC.out w1 hb); have GB1 := Aside0.mk (GB.out w1 hb); clear hb)
    | (go_at_call 83; refine RC1.out.mono ?_; rintro e1 w2 ⟨rfl, hg, hc⟩; have HG := Aside0.mk (grown_then GB1.out hg); have HC := Aside0.mk hc; clear hg hc)
    | fail)
  go_ret
  exact ⟨rfl, HG.out, HC.out⟩
set_option maxRecDepth 100000 in
set_option maxHeartbeats 1000000 in
theorem small_nil_2 (h : Rdr w r A' c' l' a' e') (h6 : l'.length ≤ 6000) (he : e' ≠ 0) (n : Int) : Calls Try.prog 62 #[.pointer none, .pointer (some ⟨r, 0, none⟩), .agg #[.int .i64 2, .int .i64 n]] w (NilP w r A' c' l' a' e') := by
  have hb := below_alloc (Below.refl w.heap.size w) (.cells #[.int .i64 2, .int .i64 n] 59)
  have hu86 := Try.underlying86
  have CC := Aside0.mk (U32_nil (w.alloc (.cells #[.int .i64 2, .int .i64 n] 59)))
  have RC := fun (W : World) (hW : Below (w.alloc (.cells #[.int .i64 2, .int .i64 n] 59)).heap.size (w.alloc (.cells #[.int .i64 2, .int .i64 n] 59)) W) => RUint_calls (h.below (below_then hb (by rw [World.size_alloc]; omega) hW)) h6
  simp only [u32_off he] at RC
  replace RC := Aside0.mk RC
  have GB := Aside0.mk (fun (W : World) (hW : Below (w.alloc (.cells #[.int .i64 2, .int .i64 n] 59)).heap.size (w.alloc (.cells #[.int .i64 2, .int .i64 n] 59)) W) => grown_of_below (below_then hb (by rw [World.size_alloc]; omega) hW) (some r))
  clear h hb he h6
  go_enter Try.func62, Try.ntmps62
  go_wp2_with (first
    | (go_at_call 73; refine CC.out.mono ?_; rintro e1 w1 ⟨rfl, hb⟩; have RC1 := Aside0.mk (RC.out w1 hb); have GB1 := Aside0.mk (GB.out w1 hb); clear hb)
    | (go_at_call 75; refine RC1.out.mono ?_; rintro e1 w2 ⟨rfl, hg, hc⟩; have HG := Aside0.mk (grown_then GB1.out hg); have HC := Aside0.mk hc; clear hg hc)
    | fail)
  go_ret
  exact ⟨rfl, HG.out, HC.out⟩
set_option maxRecDepth 100000 in
set_option maxHeartbeats 1000000 in
theorem small_nil_3 (h : Rdr w r A' c' l' a' e') (h6 : l'.length ≤ 6000) (he : e' ≠ 0) (n : Int) : Calls Try.prog 62 #[.pointer none, .pointer (some ⟨r, 0, none⟩), .agg #[.int .i64 3, .int .i64 n]] w (NilP w r A' c' l' a' e') := by
  have hb := below_alloc (Below.refl w.heap.size w) (.cells #[.int .i64 3, .int .i64 n] 59)
  have hu86 := Try.underlying86
  have CC := Aside0.mk (S32_nil (w.alloc (.cells #[.int .i64 3, .int .i64 n] 59)))
  have RC := fun (W : World) (hW : Below (w.alloc (.cells #[.int .i64 3, .int .i64 n] 59)).heap.size (w.alloc (.cells #[.int .i64 3, .int .i64 n] 59)) W) => RSint32_calls (h.below (below_then hb (by rw [World.size_alloc]; omega) hW)) h6
  simp only [s32_off he] at RC
  replace RC := Aside0.mk RC
  have GB := Aside0.mk (fun (W : World) (hW : Below (w.alloc (.cells #[.int .i64 3, .int .i64 n] 59)).heap.size (w.alloc (.cells #[.int .i64 3, .int .i64 n] 59)) W) => grown_of_below (below_then hb (by rw [World.size_alloc]; omega) hW) (some r))
  clear h hb he h6
  go_enter Try.func62, Try.ntmps62
  go_wp2_with (first
    | (go_at_call 84; refine CC.out.mono ?_; rintro e1 w1 ⟨rfl, hb⟩; have RC1 := Aside0.mk (RC.out w1 hb); have GB1 := Aside0.mk (GB.out w1 hb); clear hb)
    | (go_at_call 85; refine RC1.out.mono ?_; rintro e1 w2 ⟨rfl, hg, hc⟩; have HG := Aside0.mk (grown_then GB1.out hg); have HC := Aside0.mk hc; clear hg hc)
    | fail)
  go_ret
  exact ⟨rfl, HG.out, HC.out⟩
set_option maxRecDepth 100000 in
set_option maxHeartbeats 1000000 in
theorem small_nil_4 (h : Rdr w r A' c' l' a' e') (h6 : l'.length ≤ 6000) (he : e' ≠ 0) (n : Int) : Calls Try.prog 62 #[.pointer none, .pointer (some ⟨r, 0, none⟩), .agg #[.int .i64 4, .int .i64 n]] w (NilP w r A' c' l' a' e') := by
  have hb := below_alloc (Below.refl w.heap.size w) (.cells #[.int .i64 4, .int .i64 n] 59)
  have hu86 := Try.underlying86
  have CC := Aside0.mk (S64_nil (w.alloc (.cells #[.int .i64 4, .int .i64 n] 59)))
  have RC := fun (W : World) (hW : Below (w.alloc (.cells #[.int .i64 4, .int .i64 n] 59)).heap.size (w.alloc (.cells #[.int .i64 4, .int .i64 n] 59)) W) => RSint64_calls (h.below (below_then hb (by rw [World.size_alloc]; omega) hW)) h6
  simp only [s64_off he] at RC
  replace RC := Aside0.mk RC
  have GB := Aside0.mk (fun (W : World) (hW : Below (w.alloc (.cells #[.int .i64 4, .int .i64 n] 59)).heap.size (w.alloc (.cells #[.int .i64 4, .int .i64 n] 59)) W) => grown_of_below (below_then hb (by rw [World.size_alloc]; omega) hW) (some r))
  clear h hb he h6
  go_enter Try.func62, Try.ntmps62
  go_wp2_with (first
    | (go_at_call 86; refine CC.out.mono ?_; rintro e1 w1 ⟨rfl, hb⟩; have RC1 := Aside0.mk (RC.out w1 hb); have GB1 := Aside0.mk (GB.out w1 hb); clear hb)
    | (go_at_call 85; refine RC1.out.mono ?_; rintro e1 w2 ⟨rfl, hg, hc⟩; have HG := Aside0.mk (grown_then GB1.out hg); have HC := Aside0.mk hc; clear hg hc)
    | fail)
  go_ret
  exact ⟨rfl, HG.out, HC.out⟩
set_option maxRecDepth 100000 in
set_option maxHeartbeats 1000000 in
theorem small_nil_7 (h : Rdr w r A' c' l' a' e') (h6 : l'.length ≤ 6000) (he : e' ≠ 0) (n : Int) : Calls Try.prog 62 #[.pointer none, .pointer (some ⟨r, 0, none⟩), .agg #[.int .i64 7, .int .i64 n]] w (NilP w r A' c' l' a' e') := by
  have hb := below_alloc (Below.refl w.heap.size w) (.cells #[.int .i64 7, .int .i64 n] 59)
  have hu86 := Try.underlying86
  have CC := Aside0.mk (Name_nil (w.alloc (.cells #[.int .i64 7, .int .i64 n] 59)))
  have RC := fun (W : World) (hW : Below (w.alloc (.cells #[.int .i64 7, .int .i64 n] 59)).heap.size (w.alloc (.cells #[.int .i64 7, .int .i64 n] 59)) W) => RName_calls (h.below (below_then hb (by rw [World.size_alloc]; omega) hW)) h6
  simp only [name_off he] at RC
  replace RC := Aside0.mk RC
  have GB := Aside0.mk (fun (W : World) (hW : Below (w.alloc (.cells #[.int .i64 7, .int .i64 n] 59)).heap.size (w.alloc (.cells #[.int .i64 7, .int .i64 n] 59)) W) => grown_of_below (below_then hb (by rw [World.size_alloc]; omega) hW) (some r))
  clear h hb he h6
  go_enter Try.func62, Try.ntmps62
  go_wp2_with (first
    | (go_at_call 91; refine CC.out.mono ?_; rintro e1 w1 ⟨rfl, hb⟩; have RC1 := Aside0.mk (RC.out w1 hb); have GB1 := Aside0.mk (GB.out w1 hb); clear hb)
    | (go_at_call 92; refine RC1.out.mono ?_; rintro e1 w2 ⟨rfl, hg, hc⟩; have HG := Aside0.mk (grown_then GB1.out hg); have HC := Aside0.mk hc; clear hg hc)
    | fail)
  go_ret
  exact ⟨(show Ending.returned (.bool (strOfNums []).toList.isEmpty) = _ by rw [str_nil]), HG.out, HC.out⟩
set_option maxRecDepth 100000 in
set_option maxHeartbeats 1000000 in
theorem small_nil_8 (h : Rdr w r A' c' l' a' e') (h6 : l'.length ≤ 6000) (he : e' ≠ 0) (n : Int) : Calls Try.prog 62 #[.pointer none, .pointer (some ⟨r, 0, none⟩), .agg #[.int .i64 8, .int .i64 n]] w (NilP w r A' c' l' a' e') := by
  have hb := below_alloc (Below.refl w.heap.size w) (.cells #[.int .i64 8, .int .i64 n] 59)
  have hu86 := Try.underlying86
  have CC := Aside0.mk (Count_nil (w.alloc (.cells #[.int .i64 8, .int .i64 n] 59)))
  have RC := fun (W : World) (hW : Below (w.alloc (.cells #[.int .i64 8, .int .i64 n] 59)).heap.size (w.alloc (.cells #[.int .i64 8, .int .i64 n] 59)) W) => RCount_calls (h.below (below_then hb (by rw [World.size_alloc]; omega) hW)) h6
  simp only [count_off he] at RC
  replace RC := Aside0.mk RC
  have GB := Aside0.mk (fun (W : World) (hW : Below (w.alloc (.cells #[.int .i64 8, .int .i64 n] 59)).heap.size (w.alloc (.cells #[.int .i64 8, .int .i64 n] 59)) W) => grown_of_below (below_then hb (by rw [World.size_alloc]; omega) hW) (some r))
  clear h hb he h6
  go_enter Try.func62, Try.ntmps62
  go_wp2_with (first
    | (go_at_call 93; refine CC.out.mono ?_; rintro e1 w1 ⟨rfl, hb⟩; have RC1 := Aside0.mk (RC.out w1 hb); have GB1 := Aside0.mk (GB.out w1 hb); clear hb)
    | (go_at_call 94; refine RC1.out.mono ?_; rintro e1 w2 ⟨rfl, hg, hc⟩; have HG := Aside0.mk (grown_then GB1.out hg); have HC := Aside0.mk hc; clear hg hc)
    | fail)
  go_ret
  exact ⟨rfl, HG.out, HC.out⟩
set_option maxRecDepth 100000 in
set_option maxHeartbeats 1000000 in
theorem small_nil_9 (h : Rdr w r A' c' l' a' e') (h6 : l'.length ≤ 6000) (he : e' ≠ 0) (n : Int) : Calls Try.prog 62 #[.pointer none, .pointer (some ⟨r, 0, none⟩), .agg #[.int .i64 9, .int .i64 n]] w (NilP w r A' c' l' a' e') := by
  have hb := below_alloc (Below.refl w.heap.size w) (.cells #[.int .i64 9, .int .i64 n] 59)
  have hu86 := Try.underlying86
  have CC := Aside0.mk (Value_nil (w.alloc (.cells #[.int .i64 9, .int .i64 n] 59)))
  have RC := fun (W : World) (hW : Below (w.alloc (.cells #[.int .i64 9, .int .i64 n] 59)).heap.size (w.alloc (.cells #[.int .i64 9, .int .i64 n] 59)) W) => RValue_calls (h.below (below_then hb (by rw [World.size_alloc]; omega) hW))
  simp only [value_off he] at RC
  replace RC := Aside0.mk RC
  have GB := Aside0.mk (fun (W : World) (hW : Below (w.alloc (.cells #[.int .i64 9, .int .i64 n] 59)).heap.size (w.alloc (.cells #[.int .i64 9, .int .i64 n] 59)) W) => grown_of_below (below_then hb (by rw [World.size_alloc]; omega) hW) (some r))
  clear h hb he h6
  go_enter Try.func62, Try.ntmps62
  go_wp2_with (first
    | (go_at_call 70; refine CC.out.mono ?_; rintro e1 w1 ⟨rfl, hb⟩; have RC1 := Aside0.mk (RC.out w1 hb); have GB1 := Aside0.mk (GB.out w1 hb); clear hb)
    | (go_at_call 79; refine RC1.out.mono ?_; rintro e1 w2 ⟨rfl, hg, hc⟩; have HG := Aside0.mk (grown_then GB1.out hg); have HC := Aside0.mk hc; clear hg hc)
    | fail)
  go_ret
  exact ⟨rfl, HG.out, HC.out⟩
set_option maxRecDepth 100000 in
set_option maxHeartbeats 1000000 in
theorem small_nil_10 (h : Rdr w r A' c' l' a' e') (h6 : l'.length ≤ 6000) (he : e' ≠ 0) (n : Int) : Calls Try.prog 62 #[.pointer none, .pointer (some ⟨r, 0, none⟩), .agg #[.int .i64 10, .int .i64 n]] w (NilP w r A' c' l' a' e') := by
  have hb := below_alloc (Below.refl w.heap.size w) (.cells #[.int .i64 10, .int .i64 n] 59)
  have hu86 := Try.underlying86
  have CC := Aside0.mk (Results_nil (w.alloc (.cells #[.int .i64 10, .int .i64 n] 59)))
  have RC := fun (W : World) (hW : Below (w.alloc (.cells #[.int .i64 10, .int .i64 n] 59)).heap.size (w.alloc (.cells #[.int .i64 10, .int .i64 n] 59)) W) => RResults_calls (h.below (below_then hb (by rw [World.size_alloc]; omega) hW))
  simp only [results_off he] at RC
  replace RC := Aside0.mk RC
  have GB := Aside0.mk (fun (W : World) (hW : Below (w.alloc (.cells #[.int .i64 10, .int .i64 n] 59)).heap.size (w.alloc (.cells #[.int .i64 10, .int .i64 n] 59)) W) => grown_of_below (below_then hb (by rw [World.size_alloc]; omega) hW) (some r))
  clear h hb he h6
  go_enter Try.func62, Try.ntmps62
  go_wp2_with (first
    | (go_at_call 95; refine CC.out.mono ?_; rintro e1 w1 ⟨rfl, hb⟩; have RC1 := Aside0.mk (RC.out w1 hb); have GB1 := Aside0.mk (GB.out w1 hb); clear hb)
    | (go_at_call 96; refine RC1.out.mono ?_; rintro e1 w2 ⟨rfl, hg, hc⟩; have HG := Aside0.mk (grown_then GB1.out hg); have HC := Aside0.mk hc; clear hg hc)
    | fail)
  go_ret
  exact ⟨rfl, HG.out, HC.out⟩
set_option maxRecDepth 100000 in
set_option maxHeartbeats 1000000 in
theorem read_nil_11 (h : Rdr w r A' c' l' a' e') (h6 : l'.length ≤ 6000) (he : e' ≠ 0) (n : Int) : Calls Try.prog 34 #[.pointer none, .pointer (some ⟨r, 0, none⟩), .agg #[.int .i64 11, .int .i64 n]] w (NilP w r A' c' l' a' e') := by
  have hb := below_alloc (Below.refl w.heap.size w) (.cells #[.int .i64 11, .int .i64 n] 59)
  have hu86 := Try.underlying86
  have CC := (Limits_nil (w.alloc (.cells #[.int .i64 11, .int .i64 n] 59)))
  simp only [limV] at CC
  replace CC := Aside0.mk CC
  have RC := fun (W : World) (hW : Below (w.alloc (.cells #[.int .i64 11, .int .i64 n] 59)).heap.size (w.alloc (.cells #[.int .i64 11, .int .i64 n] 59)) W) => RLimits_calls (h.below (below_then hb (by rw [World.size_alloc]; omega) hW)) h6
  simp only [limV, lim_off he] at RC
  replace RC := Aside0.mk RC
  have GB := Aside0.mk (fun (W : World) (hW : Below (w.alloc (.cells #[.int .i64 11, .int .i64 n] 59)).heap.size (w.alloc (.cells #[.int .i64 11, .int .i64 n] 59)) W) => grown_of_below (below_then hb (by rw [World.size_alloc]; omega) hW) (some r))
  have eq1 := eq_lim90 0 0 0 0 false false
  have eg : Try.prog.eqGuardType Try.prog.depth 90 = false := by kernel_rfl
  clear h hb he h6
  go_enter Try.func34, Try.ntmps34
  go_wp2_with (first
    | (go_at_call 54; refine CC.out.mono ?_; rintro e1 w1 ⟨rfl, hb⟩; have RC1 := Aside0.mk (RC.out w1 hb); have GB1 := Aside0.mk (GB.out w1 hb); clear hb)
    | (go_at_call 55; refine RC1.out.mono ?_; rintro e1 w2 ⟨rfl, hg, hc⟩; have HG := Aside0.mk (grown_then GB1.out hg); have HC := Aside0.mk hc; clear hg hc)
    | fail)
  go_ret
  exact ⟨rfl, HG.out, HC.out⟩
set_option maxRecDepth 100000 in
set_option maxHeartbeats 1000000 in
theorem read_nil_13 (h : Rdr w r A' c' l' a' e') (h6 : l'.length ≤ 6000) (he : e' ≠ 0) (n : Int) : Calls Try.prog 34 #[.pointer none, .pointer (some ⟨r, 0, none⟩), .agg #[.int .i64 13, .int .i64 n]] w (NilP w r A' c' l' a' e') := by
  have hb := below_alloc (Below.refl w.heap.size w) (.cells #[.int .i64 13, .int .i64 n] 59)
  have hu86 := Try.underlying86
  have CC := (Table_nil (w.alloc (.cells #[.int .i64 13, .int .i64 n] 59)))
  simp only [limV] at CC
  replace CC := Aside0.mk CC
  have RC := fun (W : World) (hW : Below (w.alloc (.cells #[.int .i64 13, .int .i64 n] 59)).heap.size (w.alloc (.cells #[.int .i64 13, .int .i64 n] 59)) W) => RTable_calls (h.below (below_then hb (by rw [World.size_alloc]; omega) hW)) h6
  simp only [limV, tab_off he] at RC
  replace RC := Aside0.mk RC
  have GB := Aside0.mk (fun (W : World) (hW : Below (w.alloc (.cells #[.int .i64 13, .int .i64 n] 59)).heap.size (w.alloc (.cells #[.int .i64 13, .int .i64 n] 59)) W) => grown_of_below (below_then hb (by rw [World.size_alloc]; omega) hW) (some r))
  have eq1 := eq_lim90 0 0 0 0 false false
  have eg : Try.prog.eqGuardType Try.prog.depth 90 = false := by kernel_rfl
  clear h hb he h6
  go_enter Try.func34, Try.ntmps34
  go_wp2_with (first
    | (go_at_call 58; refine CC.out.mono ?_; rintro e1 w1 ⟨rfl, hb⟩; have RC1 := Aside0.mk (RC.out w1 hb); have GB1 := Aside0.mk (GB.out w1 hb); clear hb)
    | (go_at_call 59; refine RC1.out.mono ?_; rintro e1 w2 ⟨rfl, hg, hc⟩; have HG := Aside0.mk (grown_then GB1.out hg); have HC := Aside0.mk hc; clear hg hc)
    | fail)
  go_ret
  exact ⟨rfl, HG.out, HC.out⟩
set_option maxRecDepth 100000 in
set_option maxHeartbeats 1000000 in
theorem read_nil_12 (h : Rdr w r A' c' l' a' e') (h6 : l'.length ≤ 6000) (he : e' ≠ 0) (n : Int) : Calls Try.prog 34 #[.pointer none, .pointer (some ⟨r, 0, none⟩), .agg #[.int .i64 12, .int .i64 n]] w (NilP w r A' c' l' a' e') := by
  have hb0 := below_alloc (Below.refl w.heap.size w) (.cells #[.int .i64 12, .int .i64 n] 59)
  have HB0 := Aside0.mk hb0
  have CC := Global_nil (w.alloc (.cells #[.int .i64 12, .int .i64 n] 59))
  simp only [gloV] at CC
  replace CC := Aside0.mk CC
  have RC := fun (W : World) (hW : Below w.heap.size w W) => RGlobal_calls (h.below hW)
  simp only [glo_off he, gloW] at RC
  replace RC := Aside0.mk RC
  have SZ := Aside0.mk h.lt
  have eq1 := eq_glo93 0 0 false false
  have eg : Try.prog.eqGuardType Try.prog.depth 93 = false := by kernel_rfl
  clear h hb0 he h6
  go_enter Try.func34, Try.ntmps34
  go_wp2_with (first
    | (go_at_call 56; refine CC.out.mono ?_; rintro e1 w1 ⟨rfl, hb⟩
       have hW1 := below_then HB0.out (by rw [World.size_alloc]; omega) hb
       have hW2 := hW1.alloc hW1.size (.cells #[.int .u8 0, .bool false] 93)
       have Q := Aside0.mk (heap_alloc_new w1 (.cells #[.int .u8 0, .bool false] 93))
       have SZ1 := Aside0.mk (show r < w1.heap.size from Nat.lt_of_lt_of_le SZ.out hW1.size)
       have HW := Aside0.mk hW2
       have RC1 := Aside0.mk (RC.out _ hW2)
       clear hb hW1 hW2)
    | (go_at_call 57; refine RC1.out.mono ?_; rintro e1 w2 ⟨rfl, hg, hc⟩
       have HG := Aside0.mk (grown_then (grown_of_below HW.out (some r)) hg); have HC := Aside0.mk hc
       have q2 := (hg.block w1.heap.size (blk_lt Q.out) (fun e => by have := Option.some.inj e; have := SZ1.out; omega)).trans Q.out
       have y0 := (blk_cell q2 0).trans rfl
       have y1 := (blk_cell q2 1).trans rfl
       clear hg hc q2)
    | fail)
  go_ret
  exact ⟨rfl, HG.out, HC.out⟩
set_option maxRecDepth 100000 in
set_option maxHeartbeats 2000000 in
theorem read_nil_14 (h : Rdr w r A' c' l' a' e') (h6 : l'.length ≤ 6000) (he : e' ≠ 0) (n : Int) : Calls Try.prog 34 #[.pointer none, .pointer (some ⟨r, 0, none⟩), .agg #[.int .i64 14, .int .i64 n]] w (NilP w r A' c' l' a' e') := by
  have hb0 := below_alloc (Below.refl w.heap.size w) (.cells #[.int .i64 14, .int .i64 n] 59)
  have HB0 := Aside0.mk hb0
  have CC := Aside0.mk (Func_nil (w.alloc (.cells #[.int .i64 14, .int .i64 n] 59)))
  have RC := fun (W : World) (hW : Below w.heap.size w W) => RFunc_calls (h.below hW) h6
  simp only [fun_off he] at RC
  replace RC := Aside0.mk RC
  have SZ := Aside0.mk h.lt
  have CV := Aside0.mk (fun (W : World) (A1 : Option Addr) (xs : List Int) (n1 c1 : Nat) (hn : n1 = xs.length) (hF : Kd.C ku W A1 xs.length xs) => (show (convert 22 9 (.slice A1 n1 c1)).run Try.prog W = .ok (.string (strOfNums xs)) W by rw [hn]; exact Kd.C_string Try.underlying22 Try.underlying5 Try.underlying9 hF))
  have hu := Try.underlying22
  clear h hb0 he h6
  go_enter Try.func34, Try.ntmps34
  go_wp2_with (first
    | (go_at_call 53; refine CC.out.mono ?_; rintro e1 w1 ⟨rfl, hb⟩
       have hW1 := below_then HB0.out (by rw [World.size_alloc]; omega) hb
       have hW2 := hW1.alloc hW1.size (.cells #[.slice none 0 0, .slice none 0 0] 84)
       have Q := Aside0.mk (heap_alloc_new w1 (.cells #[.slice none 0 0, .slice none 0 0] 84))
       have SZ1 := Aside0.mk (show r < w1.heap.size from Nat.lt_of_lt_of_le SZ.out hW1.size)
       have HW := Aside0.mk hW2
       have RC1 := Aside0.mk (RC.out _ hW2)
       clear hb hW1 hW2)
    | (go_at_call 60; refine RC1.out.mono ?_; rintro e1 w2 ⟨_, rfl, ⟨A3, c3, A4, c4, rfl, hcc, hF3, hF4⟩, hg, hc⟩
       have HG := Aside0.mk (grown_then (grown_of_below HW.out (some r)) hg); have HC := Aside0.mk hc
       have q2 := (hg.block w1.heap.size (blk_lt Q.out) (fun e => by have := Option.some.inj e; have := SZ1.out; omega)).trans Q.out
       have y0 := (blk_cell q2 0).trans rfl
       have y1 := (blk_cell q2 1).trans rfl
       have cv1 := CV.out w2 none [] 0 0 rfl (Kd.C_nil _ _)
       have cv3 := CV.out w2 A3 [] 0 c3 rfl (Kd.F_now hF3)
       have cv4 := CV.out w2 A4 [] 0 c4 rfl (Kd.F_now hF4)
       simp only [List.length_nil]
       clear hg hc q2 hcc hF3 hF4)
    | fail)
  all_goals
    go_ret
    exact ⟨rfl, HG.out, HC.out⟩
set_option maxRecDepth 100000 in
set_option maxHeartbeats 2000000 in
theorem small_nil_5 (h : Rdr w r A' c' l' a' e') (h6 : l'.length ≤ 6000) (he : e' ≠ 0) (n : Int) : Calls Try.prog 62 #[.pointer none, .pointer (some ⟨r, 0, none⟩), .agg #[.int .i64 5, .int .i64 n]] w (NilP w r A' c' l' a' e') := by
  have hb0 := below_alloc (Below.refl w.heap.size w) (.cells #[.int .i64 5, .int .i64 n] 59)
  have hd := below_drew hb0
  have CC := Aside0.mk (Fixed_nil ((w.alloc (.cells #[.int .i64 5, .int .i64 n] 59)).drew) n)
  have RC := fun (W : World) (hW : Below w.heap.size w W) => RFixed_calls (h.below hW) n
  simp only [fix_off he] at RC
  replace RC := Aside0.mk RC
  have Q0 := heap_alloc_new w (.cells #[.int .i64 5, .int .i64 n] 59)
  have Q := Aside0.mk (fun (W : World) (hW : (w.alloc (.cells #[.int .i64 5, .int .i64 n] 59)).drew.grownBy W (some r)) => (show W.heap[w.heap.size]? = some (.cells #[.int .i64 5, .int .i64 n] 59 (0, 0)) from (hW.block w.heap.size (by show w.heap.size < (w.alloc (.cells #[.int .i64 5, .int .i64 n] 59)).heap.size; rw [World.size_alloc]; omega) (fun e => by have := Option.some.inj e; have := h.lt; omega)).trans Q0))
  have HB := Aside0.mk (fun (W : World) (hW : Below ((w.alloc (.cells #[.int .i64 5, .int .i64 n] 59)).drew).heap.size ((w.alloc (.cells #[.int .i64 5, .int .i64 n] 59)).drew) W) => below_then hd (by show _ ≤ (w.alloc (.cells #[.int .i64 5, .int .i64 n] 59)).heap.size; rw [World.size_alloc]; omega) hW)
  clear h hb0 hd he h6 Q0
  go_enter Try.func62, Try.ntmps62
  go_wp2
  go_region_with (first
    | (go_at_call 87; refine CC.out.mono ?_; rintro e1 w1 ⟨rfl, hb⟩; have HW1 := Aside0.mk (HB.out w1 hb); have GD1 := Aside0.mk (grown_of_below hb (some r)); have k1 := (blk_cell (Q.out w1 GD1.out) 1).trans rfl; have RC1 := Aside0.mk (RC.out w1 HW1.out); clear hb)
    | (go_at_call 88; refine RC1.out.mono ?_; rintro e1 w2 ⟨rfl, hg, hc⟩; have HG := Aside0.mk (grown_then (grown_of_below HW1.out (some r)) hg); have HC := Aside0.mk hc; have k2 := (blk_cell (Q.out w2 (grown_then GD1.out hg)) 1).trans rfl; clear hg hc))
  all_goals
    go_wp2
    go_ret
    exact ⟨rfl, HG.out, HC.out⟩
set_option maxRecDepth 100000 in
set_option maxHeartbeats 1000000 in
theorem read_nil_none (h : Rdr w r A' c' l' a' e') (k n : Int) (hk : k < 1 ∨ 15 < k) : Calls Try.prog 34 #[.pointer none, .pointer (some ⟨r, 0, none⟩), .agg #[.int .i64 k, .int .i64 n]] w (NilP w r A' c' l' a' e') := by
  have hb := below_alloc (Below.refl w.heap.size w) (.cells #[.int .i64 k, .int .i64 n] 59)
  have HG := Aside0.mk (grown_of_below hb (some r))
  have HC := Aside0.mk (h.below hb)
  have n11 : ¬ k = 11 := by omega
  have n12 : ¬ k = 12 := by omega
  have n13 : ¬ k = 13 := by omega
  have n14 : ¬ k = 14 := by omega
  have n15 : ¬ k = 15 := by omega
  by_cases hk1 : k < 1
  · have d1 : decide (k ≥ 1) = false := decide_eq_false (by omega)
    clear h hb hk
    go_enter Try.func34, Try.ntmps34
    go_wp2
    go_ret
    exact ⟨rfl, HG.out, HC.out⟩
  · have d1 : decide (k ≥ 1) = true := decide_eq_true (by omega)
    have d2 : decide (k ≤ 10) = false := decide_eq_false (by omega)
    clear h hb hk
    go_enter Try.func34, Try.ntmps34
    go_wp2
    go_ret
    exact ⟨rfl, HG.out, HC.out⟩
set_option maxRecDepth 100000 in
theorem At_nil (w : World) : Calls Try.prog 35 #[.pointer none] w fun en w' => en = .returned (.int .i64 0) ∧ w = w' := by
  go_enter Try.func35, Try.ntmps35
  go_wp2
  go_ret
  exact ⟨rfl, rfl⟩
set_option maxRecDepth 100000 in
theorem Left_nil (w : World) : Calls Try.prog 36 #[.pointer none] w fun en w' => en = .returned (.int .i64 0) ∧ w = w' := by
  go_enter Try.func36, Try.ntmps36
  go_wp2
  go_ret
  exact ⟨rfl, rfl⟩
set_option maxRecDepth 100000 in
theorem Err_nil (w : World) : Calls Try.prog 37 #[.pointer none] w fun en w' => en = .returned (.int .i64 1) ∧ w = w' := by
  go_enter Try.func37, Try.ntmps37
  go_wp2
  go_ret
  exact ⟨rfl, rfl⟩
set_option maxRecDepth 100000 in
theorem Fail_nil (w : World) (er : Int) : Calls Try.prog 38 #[.pointer none, .int .i64 er] w fun en w' => en = .returned (.tuple #[]) ∧ w = w' := by
  go_enter Try.func38, Try.ntmps38
  go_wp2
  go_end0
  exact ⟨rfl, rfl⟩
set_option maxRecDepth 100000 in
set_option maxHeartbeats 1000000 in
theorem read_nil_15z (h : Rdr w r A' c' l' a' e') (n : Int) (hn : n ≤ 0) : Calls Try.prog 34 #[.pointer none, .pointer (some ⟨r, 0, none⟩), .agg #[.int .i64 15, .int .i64 n]] w (NilP w r A' c' l' a' e') := by
  have hb := below_alloc (Below.refl w.heap.size w) (.cells #[.int .i64 15, .int .i64 n] 59)
  have HG := Aside0.mk (grown_of_below hb (some r))
  have HC := Aside0.mk (h.below hb)
  have FC := Aside0.mk (Fail_nil (w.alloc (.cells #[.int .i64 15, .int .i64 n] 59)) 0)
  have n1 : ¬ 1000 < n := by omega
  by_cases h0 : n = 0
  · subst h0
    clear h hb hn n1
    go_enter Try.func34, Try.ntmps34
    go_wp2_with (first
      | (go_at_call 38; refine FC.out.mono ?_; rintro e1 w1 ⟨rfl, rfl⟩)
      | fail)
    go_ret
    exact ⟨rfl, HG.out, HC.out⟩
  · have n2 : n < 0 := by omega
    clear h hb hn h0
    go_enter Try.func34, Try.ntmps34
    go_wp2_with (first
      | (go_at_call 38; refine FC.out.mono ?_; rintro e1 w1 ⟨rfl, rfl⟩)
      | fail)
    go_ret
    exact ⟨rfl, HG.out, HC.out⟩
set_option maxRecDepth 100000 in
set_option maxHeartbeats 1000000 in
theorem read_nil_15y (h : Rdr w r A' c' l' a' e') (he : e' ≠ 0) (n m : Int) (hn : (0 < n ∧ n ≤ 1000 ∧ m = n) ∨ (1000 < n ∧ m = 1000)) : Calls Try.prog 34 #[.pointer none, .pointer (some ⟨r, 0, none⟩), .agg #[.int .i64 15, .int .i64 n]] w (NilP w r A' c' l' a' e') := by
  have hb := below_alloc (Below.refl w.heap.size w) (.cells #[.int .i64 15, .int .i64 n] 59)
  have HB := Aside0.mk hb
  have FC := Aside0.mk (Fail_nil (w.alloc (.cells #[.int .i64 15, .int .i64 n] 59)) m)
  have RC := RFail_calls (h.below hb) m
  rw [show fl m e' = e' from if_neg he] at RC
  replace RC := Aside0.mk RC
  have d1 : ((m : Int) != 0) = true := by rw [bne_iff_ne]; omega
  by_cases h0 : n ≤ 1000
  · have n1 : ¬ 1000 < n := by omega
    have n2 : 0 < n := by omega
    have n3 : m = n := by omega
    subst n3
    clear h hb hn h0 he
    go_enter Try.func34, Try.ntmps34
    go_wp2_with (first
      | (go_at_call 38; refine FC.out.mono ?_; rintro e1 w1 ⟨rfl, rfl⟩)
      | (go_at_call 61; refine RC.out.mono ?_; rintro e1 w2 ⟨rfl, hg, hc⟩; have HG := Aside0.mk (grown_then (grown_of_below HB.out (some r)) hg); have HC := Aside0.mk hc; clear hg hc)
      | fail)
    all_goals
      go_ret
      exact ⟨rfl, HG.out, HC.out⟩
  · have n1 : 1000 < n := by omega
    have n3 : m = 1000 := by omega
    subst n3
    clear h hb hn h0 he
    go_enter Try.func34, Try.ntmps34
    go_wp2_with (first
      | (go_at_call 38; refine FC.out.mono ?_; rintro e1 w1 ⟨rfl, rfl⟩)
      | (go_at_call 61; refine RC.out.mono ?_; rintro e1 w2 ⟨rfl, hg, hc⟩; have HG := Aside0.mk (grown_then (grown_of_below HB.out (some r)) hg); have HC := Aside0.mk hc; clear hg hc)
      | fail)
    all_goals
      go_ret
      exact ⟨rfl, HG.out, HC.out⟩
end
end Go.Proofs.Ytjhdnlgbboboiaa.Scan

/- The walk of small: Fixed, Take. -/
namespace Go.Proofs.Ytjhdnlgbboboiaa.Scan
open Go.Proofs.Ytjhdnlgbboboiaa.Leb Go.Proofs.Ytjhdnlgbboboiaa.Mem Go.RowKit Go.Proofs.YtjhdnlgbboboiaaW.PrintWords Go.Proofs.YtjhdnlgbboboiaaW.PrintLast Go.Proofs.YtjhdnlgbboboiaaW.PrintMore Go.Proofs.Ytjhdnlgbboboiaa.Base
set_option linter.unusedVariables false
set_option linter.unusedSimpArgs false
section
variable {w w1 w2 W W' : World} {g r c c' : Nat} {A A' : Option Addr} {l l' : List Int} {a e a' e' a1 e1 : Int}
set_option maxRecDepth 100000 in
set_option maxHeartbeats 2000000 in
theorem small_5 (h : Both w g r A c l a e A' c' l' a' e') (n : Int) : Calls Try.prog 62 #[.pointer (some ⟨g, 0, none⟩), .pointer (some ⟨r, 0, none⟩), .agg #[.int .i64 5, .int .i64 n]] w (ReadP w g r A c l (fixedM n l a e).2 A' c' l' (fixedM n l' a' e').2 (l = l' ∧ a = a' ∧ e = e')) := by
  have hb := (below_alloc (Below.refl w.heap.size w) (.cells #[.int .i64 5, .int .i64 n] 59))
  have hd := below_drew hb
  have h1 := h.below hd
  have CC := Aside0.mk (Fixed_calls h1.cur n)
  have RC := Aside0.mk (fun (W : World) (hW : ((w.alloc (.cells #[.int .i64 5, .int .i64 n] 59)).drew).grownBy W (some g)) (x y : Int) (hC : Cur W g A c l x y) => RFixed_calls (h1.didC hW hC).rdr n)
  have Q0 := heap_alloc_new w (.cells #[.int .i64 5, .int .i64 n] 59)
  have Q := Aside0.mk (fun (W : World) (hW : Grown2 (w.alloc (.cells #[.int .i64 5, .int .i64 n] 59)) W g r) => (show W.heap[w.heap.size]? = some (.cells #[.int .i64 5, .int .i64 n] 59 (0, 0)) from (hW.block w.heap.size (by simp) (by have := blk_lt h.boxC; omega) (by have := blk_lt h.boxR; omega)).trans Q0))
  have B := Aside0.mk h1
  have GB := Aside0.mk ((Grown2.refl w g r).below hd)
  have GD := Aside0.mk ((Grown2.refl (w.alloc (.cells #[.int .i64 5, .int .i64 n] 59)) g r).below (below_drew (Below.refl _ _)))
  have SM := Aside0.mk (show (l = l' ∧ a = a' ∧ e = e') → fixedM n l a e = fixedM n l' a' e' from fun h => by rw [h.1, h.2.1, h.2.2])
  obtain ⟨u, hu_⟩ : ∃ u, u = fixedM n l a e := ⟨_, rfl⟩
  obtain ⟨v, hv_⟩ : ∃ v, v = fixedM n l' a' e' := ⟨_, rfl⟩
  rw [← hu_] at CC SM ⊢
  rw [← hv_] at RC SM ⊢
  obtain ⟨u, ua, ue⟩ := u
  obtain ⟨v, va, ve⟩ := v
  simp only at CC RC SM ⊢
  clear h h1 hb hd hu_ hv_ Q0
  go_enter Try.func62, Try.ntmps62
  go_wp2
  go_region_with (first
    | (go_at_call 87; refine CC.out.mono ?_; rintro e1 w1 ⟨rfl, hg, hc⟩; have B1 := Aside0.mk (B.out.didC hg hc); have GB1 := Aside0.mk (GB.out.byC hg); have GD1 := Aside0.mk (GD.out.byC hg); have k1 := (blk_cell (Q.out w1 GD1.out) 1).trans rfl; have RC1 := Aside0.mk (RC.out w1 hg _ _ hc); clear hg hc)
    | (go_at_call 88; refine RC1.out.mono ?_; rintro e1 w2 ⟨rfl, hg, hc⟩; have B2 := Aside0.mk (B1.out.didR hg hc); have GB2 := Aside0.mk (GB1.out.byR hg); have k2 := (blk_cell (Q.out w2 (GD1.out.byR hg)) 1).trans rfl; clear hg hc))
  all_goals
    go_wp2
    go_ret
    exact ⟨_, rfl, fun hs => by have := SM.out hs; injection this with h1 h2; simp [h1], GB2.out, B2.out⟩
end
end Go.Proofs.Ytjhdnlgbboboiaa.Scan

/- The walk of small: Take, where the number is less than nothing. -/
namespace Go.Proofs.Ytjhdnlgbboboiaa.Scan
open Go.Proofs.Ytjhdnlgbboboiaa.Leb Go.Proofs.Ytjhdnlgbboboiaa.Mem Go.RowKit Go.Proofs.YtjhdnlgbboboiaaW.PrintWords Go.Proofs.YtjhdnlgbboboiaaW.PrintLast Go.Proofs.YtjhdnlgbboboiaaW.PrintMore Go.Proofs.Ytjhdnlgbboboiaa.Base
set_option linter.unusedVariables false
set_option linter.unusedSimpArgs false
section
variable {w w1 w2 W W' : World} {g r c c' : Nat} {A A' : Option Addr} {l l' : List Int} {a e a' e' a1 e1 : Int}
set_option maxRecDepth 100000 in
set_option maxHeartbeats 8000000 in
theorem small_6a (h : Both w g r A c l a e A' c' l' a' e') (n : Int) (hn : n < 0) : Calls Try.prog 62 #[.pointer (some ⟨g, 0, none⟩), .pointer (some ⟨r, 0, none⟩), .agg #[.int .i64 6, .int .i64 n]] w (ReadP w g r A c l (takeM l (clampT n) a e).2 A' c' l' (takeM l' (clampT n) a' e').2 (l = l' ∧ a = a' ∧ e = e')) := by
  have e0 : clampT n = 0 := by unfold clampT; omega
  rw [e0]
  have hu86 := Try.underlying86
  have hu := Try.underlying22
  have hb := (below_alloc (Below.refl w.heap.size w) (.cells #[.int .i64 6, .int .i64 n] 59))
  have hd := below_drew hb
  have h1 := h.below hd
  have CC := Take_calls h1.cur 0 (by omega) (by omega)
  have RC := (fun (W : World) (hW : ((w.alloc (.cells #[.int .i64 6, .int .i64 n] 59)).drew).grownBy W (some g)) (x y : Int) (hC : Cur W g A c l x y) => RTake_calls (h1.didC hW hC).rdr 0 (by omega) (by omega))
  have B := Aside0.mk h1
  have GB := Aside0.mk ((Grown2.refl w g r).below hd)
  have SM := Aside0.mk (show (l = l' ∧ a = a' ∧ e = e') → takeM l 0 a e = takeM l' 0 a' e' from fun h => by rw [h.1, h.2.1, h.2.2])
  have SZ := Aside0.mk (show r < ((w.alloc (.cells #[.int .i64 6, .int .i64 n] 59)).drew).heap.size from blk_lt h1.boxR)
  obtain ⟨u, hu_⟩ : ∃ u, u = takeM l 0 a e := ⟨_, rfl⟩
  obtain ⟨v, hv_⟩ : ∃ v, v = takeM l' 0 a' e' := ⟨_, rfl⟩
  rw [← hu_] at CC SM ⊢
  rw [← hv_] at RC SM ⊢
  obtain ⟨us, ua, ue⟩ := u
  obtain ⟨vs, va, ve⟩ := v
  simp only at CC RC SM ⊢
  replace CC := Aside0.mk CC
  replace RC := Aside0.mk RC
  have CU := Aside0.mk (fun (W : World) (A1 : Option Addr) (c1 : Nat) (hF : Kd.C ku W A1 us.length us) => (Kd.C_string Try.underlying22 Try.underlying5 Try.underlying9 hF : (convert 22 9 (.slice A1 us.length c1)).run Try.prog W = .ok (.string (strOfNums us)) W))
  have CV := Aside0.mk (fun (W : World) (A1 : Option Addr) (c1 : Nat) (hF : Kd.C ku W A1 vs.length vs) => (Kd.C_string Try.underlying22 Try.underlying5 Try.underlying9 hF : (convert 22 9 (.slice A1 vs.length c1)).run Try.prog W = .ok (.string (strOfNums vs)) W))
  clear h h1 hb hd hu_ hv_ e0
  go_enter Try.func62, Try.ntmps62
  go_wp2
  go_region_with (first
      | (go_at_call 89; refine CC.out.mono ?_; rintro e1 w1 ⟨r1, rfl, ⟨A1, c1, rfl, hc1, hf1⟩, hg, hc⟩; have B1 := Aside0.mk (B.out.didC hg hc); have GB1 := Aside0.mk (GB.out.byC hg); have HF1 := Aside0.mk hf1; have RC1 := Aside0.mk (RC.out w1 hg _ _ hc); have cv1 := CU.out w1 A1 c1 (Kd.F_now hf1); clear hg hc hf1 hc1)
      | (go_at_call 90; refine RC1.out.mono ?_; rintro e1 w2 ⟨r2, rfl, ⟨A2, c2, rfl, hc2, hf2⟩, hg, hc⟩; have B2 := Aside0.mk (B1.out.didR hg hc); have GB2 := Aside0.mk (GB1.out.byR hg); have cv2 := CV.out w2 A2 c2 (Kd.F_now hf2); have cv3 := CU.out w2 A1 c1 (Kd.F_now (Kd.F_step HF1.out fun k hk hlt => hg.block k hlt (fun e => by have := Option.some.inj e; have := SZ.out; omega))); clear hg hc hf2 hc2))
  all_goals
    go_wp2
    go_ret
    exact ⟨_, rfl, fun hs => by have := SM.out hs; injection this with h1 h2; simp [h1], GB2.out, B2.out⟩
end
end Go.Proofs.Ytjhdnlgbboboiaa.Scan

/- The walk of small: Take, where the number is in its bounds. -/
namespace Go.Proofs.Ytjhdnlgbboboiaa.Scan
open Go.Proofs.Ytjhdnlgbboboiaa.Leb Go.Proofs.Ytjhdnlgbboboiaa.Mem Go.RowKit Go.Proofs.YtjhdnlgbboboiaaW.PrintWords Go.Proofs.YtjhdnlgbboboiaaW.PrintLast Go.Proofs.YtjhdnlgbboboiaaW.PrintMore Go.Proofs.Ytjhdnlgbboboiaa.Base
set_option linter.unusedVariables false
set_option linter.unusedSimpArgs false
section
variable {w w1 w2 W W' : World} {g r c c' : Nat} {A A' : Option Addr} {l l' : List Int} {a e a' e' a1 e1 : Int}
set_option maxRecDepth 100000 in
set_option maxHeartbeats 8000000 in
theorem small_6b (h : Both w g r A c l a e A' c' l' a' e') (n : Int) (hn : ¬ n < 0) (hm : ¬ 2147483648 < n) : Calls Try.prog 62 #[.pointer (some ⟨g, 0, none⟩), .pointer (some ⟨r, 0, none⟩), .agg #[.int .i64 6, .int .i64 n]] w (ReadP w g r A c l (takeM l (clampT n) a e).2 A' c' l' (takeM l' (clampT n) a' e').2 (l = l' ∧ a = a' ∧ e = e')) := by
  have e0 : clampT n = n := by unfold clampT; omega
  rw [e0]
  have hu86 := Try.underlying86
  have hu := Try.underlying22
  have hb := (below_alloc (Below.refl w.heap.size w) (.cells #[.int .i64 6, .int .i64 n] 59))
  have hd := below_drew hb
  have h1 := h.below hd
  have CC := Take_calls h1.cur n (by omega) (by omega)
  have RC := (fun (W : World) (hW : ((w.alloc (.cells #[.int .i64 6, .int .i64 n] 59)).drew).grownBy W (some g)) (x y : Int) (hC : Cur W g A c l x y) => RTake_calls (h1.didC hW hC).rdr n (by omega) (by omega))
  have B := Aside0.mk h1
  have GB := Aside0.mk ((Grown2.refl w g r).below hd)
  have SM := Aside0.mk (show (l = l' ∧ a = a' ∧ e = e') → takeM l n a e = takeM l' n a' e' from fun h => by rw [h.1, h.2.1, h.2.2])
  have SZ := Aside0.mk (show r < ((w.alloc (.cells #[.int .i64 6, .int .i64 n] 59)).drew).heap.size from blk_lt h1.boxR)
  obtain ⟨u, hu_⟩ : ∃ u, u = takeM l n a e := ⟨_, rfl⟩
  obtain ⟨v, hv_⟩ : ∃ v, v = takeM l' n a' e' := ⟨_, rfl⟩
  rw [← hu_] at CC SM ⊢
  rw [← hv_] at RC SM ⊢
  obtain ⟨us, ua, ue⟩ := u
  obtain ⟨vs, va, ve⟩ := v
  simp only at CC RC SM ⊢
  replace CC := Aside0.mk CC
  replace RC := Aside0.mk RC
  have CU := Aside0.mk (fun (W : World) (A1 : Option Addr) (c1 : Nat) (hF : Kd.C ku W A1 us.length us) => (Kd.C_string Try.underlying22 Try.underlying5 Try.underlying9 hF : (convert 22 9 (.slice A1 us.length c1)).run Try.prog W = .ok (.string (strOfNums us)) W))
  have CV := Aside0.mk (fun (W : World) (A1 : Option Addr) (c1 : Nat) (hF : Kd.C ku W A1 vs.length vs) => (Kd.C_string Try.underlying22 Try.underlying5 Try.underlying9 hF : (convert 22 9 (.slice A1 vs.length c1)).run Try.prog W = .ok (.string (strOfNums vs)) W))
  have t0 : 0 ≤ n := by omega
  have t1 : n < 4294967296 := by omega
  have cva : ∀ W, (convert 3 86 (.int .i64 n)).run Try.prog W = .ok (.int .u32 n) W := fun W => by
    go_simp
    simp only [IntKind.wrap_u32]
    omega
  have cvb : ∀ W, (convert 86 40 (.int .u32 n)).run Try.prog W = .ok (.int .u64 n) W := fun W => by
    go_simp
    simp only [IntKind.wrap_u64]
    omega
  clear t0 t1
  clear h h1 hb hd hu_ hv_ e0
  go_enter Try.func62, Try.ntmps62
  go_wp2
  go_region_with (first
      | (go_at_call 89; refine CC.out.mono ?_; rintro e1 w1 ⟨r1, rfl, ⟨A1, c1, rfl, hc1, hf1⟩, hg, hc⟩; have B1 := Aside0.mk (B.out.didC hg hc); have GB1 := Aside0.mk (GB.out.byC hg); have HF1 := Aside0.mk hf1; have RC1 := Aside0.mk (RC.out w1 hg _ _ hc); have cv1 := CU.out w1 A1 c1 (Kd.F_now hf1); clear hg hc hf1 hc1)
      | (go_at_call 90; refine RC1.out.mono ?_; rintro e1 w2 ⟨r2, rfl, ⟨A2, c2, rfl, hc2, hf2⟩, hg, hc⟩; have B2 := Aside0.mk (B1.out.didR hg hc); have GB2 := Aside0.mk (GB1.out.byR hg); have cv2 := CV.out w2 A2 c2 (Kd.F_now hf2); have cv3 := CU.out w2 A1 c1 (Kd.F_now (Kd.F_step HF1.out fun k hk hlt => hg.block k hlt (fun e => by have := Option.some.inj e; have := SZ.out; omega))); clear hg hc hf2 hc2))
  all_goals
    go_wp2
    go_ret
    exact ⟨_, rfl, fun hs => by have := SM.out hs; injection this with h1 h2; simp [h1], GB2.out, B2.out⟩
end
end Go.Proofs.Ytjhdnlgbboboiaa.Scan

/- The walk of small: Take, where the number is great. -/
namespace Go.Proofs.Ytjhdnlgbboboiaa.Scan
open Go.Proofs.Ytjhdnlgbboboiaa.Leb Go.Proofs.Ytjhdnlgbboboiaa.Mem Go.RowKit Go.Proofs.YtjhdnlgbboboiaaW.PrintWords Go.Proofs.YtjhdnlgbboboiaaW.PrintLast Go.Proofs.YtjhdnlgbboboiaaW.PrintMore Go.Proofs.Ytjhdnlgbboboiaa.Base
set_option linter.unusedVariables false
set_option linter.unusedSimpArgs false
section
variable {w w1 w2 W W' : World} {g r c c' : Nat} {A A' : Option Addr} {l l' : List Int} {a e a' e' a1 e1 : Int}
set_option maxRecDepth 100000 in
set_option maxHeartbeats 8000000 in
theorem small_6c (h : Both w g r A c l a e A' c' l' a' e') (n : Int) (hn : ¬ n < 0) (hm : 2147483648 < n) : Calls Try.prog 62 #[.pointer (some ⟨g, 0, none⟩), .pointer (some ⟨r, 0, none⟩), .agg #[.int .i64 6, .int .i64 n]] w (ReadP w g r A c l (takeM l (clampT n) a e).2 A' c' l' (takeM l' (clampT n) a' e').2 (l = l' ∧ a = a' ∧ e = e')) := by
  have e0 : clampT n = 2147483648 := by unfold clampT; omega
  rw [e0]
  have hu86 := Try.underlying86
  have hu := Try.underlying22
  have hb := (below_alloc (Below.refl w.heap.size w) (.cells #[.int .i64 6, .int .i64 n] 59))
  have hd := below_drew hb
  have h1 := h.below hd
  have CC := Take_calls h1.cur 2147483648 (by omega) (by omega)
  have RC := (fun (W : World) (hW : ((w.alloc (.cells #[.int .i64 6, .int .i64 n] 59)).drew).grownBy W (some g)) (x y : Int) (hC : Cur W g A c l x y) => RTake_calls (h1.didC hW hC).rdr 2147483648 (by omega) (by omega))
  have B := Aside0.mk h1
  have GB := Aside0.mk ((Grown2.refl w g r).below hd)
  have SM := Aside0.mk (show (l = l' ∧ a = a' ∧ e = e') → takeM l 2147483648 a e = takeM l' 2147483648 a' e' from fun h => by rw [h.1, h.2.1, h.2.2])
  have SZ := Aside0.mk (show r < ((w.alloc (.cells #[.int .i64 6, .int .i64 n] 59)).drew).heap.size from blk_lt h1.boxR)
  obtain ⟨u, hu_⟩ : ∃ u, u = takeM l 2147483648 a e := ⟨_, rfl⟩
  obtain ⟨v, hv_⟩ : ∃ v, v = takeM l' 2147483648 a' e' := ⟨_, rfl⟩
  rw [← hu_] at CC SM ⊢
  rw [← hv_] at RC SM ⊢
  obtain ⟨us, ua, ue⟩ := u
  obtain ⟨vs, va, ve⟩ := v
  simp only at CC RC SM ⊢
  replace CC := Aside0.mk CC
  replace RC := Aside0.mk RC
  have CU := Aside0.mk (fun (W : World) (A1 : Option Addr) (c1 : Nat) (hF : Kd.C ku W A1 us.length us) => (Kd.C_string Try.underlying22 Try.underlying5 Try.underlying9 hF : (convert 22 9 (.slice A1 us.length c1)).run Try.prog W = .ok (.string (strOfNums us)) W))
  have CV := Aside0.mk (fun (W : World) (A1 : Option Addr) (c1 : Nat) (hF : Kd.C ku W A1 vs.length vs) => (Kd.C_string Try.underlying22 Try.underlying5 Try.underlying9 hF : (convert 22 9 (.slice A1 vs.length c1)).run Try.prog W = .ok (.string (strOfNums vs)) W))
  clear h h1 hb hd hu_ hv_ e0
  go_enter Try.func62, Try.ntmps62
  go_wp2
  go_region_with (first
      | (go_at_call 89; refine CC.out.mono ?_; rintro e1 w1 ⟨r1, rfl, ⟨A1, c1, rfl, hc1, hf1⟩, hg, hc⟩; have B1 := Aside0.mk (B.out.didC hg hc); have GB1 := Aside0.mk (GB.out.byC hg); have HF1 := Aside0.mk hf1; have RC1 := Aside0.mk (RC.out w1 hg _ _ hc); have cv1 := CU.out w1 A1 c1 (Kd.F_now hf1); clear hg hc hf1 hc1)
      | (go_at_call 90; refine RC1.out.mono ?_; rintro e1 w2 ⟨r2, rfl, ⟨A2, c2, rfl, hc2, hf2⟩, hg, hc⟩; have B2 := Aside0.mk (B1.out.didR hg hc); have GB2 := Aside0.mk (GB1.out.byR hg); have cv2 := CV.out w2 A2 c2 (Kd.F_now hf2); have cv3 := CU.out w2 A1 c1 (Kd.F_now (Kd.F_step HF1.out fun k hk hlt => hg.block k hlt (fun e => by have := Option.some.inj e; have := SZ.out; omega))); clear hg hc hf2 hc2))
  all_goals
    go_wp2
    go_ret
    exact ⟨_, rfl, fun hs => by have := SM.out hs; injection this with h1 h2; simp [h1], GB2.out, B2.out⟩
end
end Go.Proofs.Ytjhdnlgbboboiaa.Scan

/- The walk of read, by any cursor, for any op. -/
namespace Go.Proofs.Ytjhdnlgbboboiaa.Scan
open Go.Proofs.Ytjhdnlgbboboiaa.Leb Go.Proofs.Ytjhdnlgbboboiaa.Mem Go.RowKit Go.Proofs.YtjhdnlgbboboiaaW.PrintWords Go.Proofs.YtjhdnlgbboboiaaW.PrintLast Go.Proofs.YtjhdnlgbboboiaaW.PrintMore Go.Proofs.Ytjhdnlgbboboiaa.Base
set_option linter.unusedVariables false
set_option linter.unusedSimpArgs false
section
variable {w w1 w2 W W' : World} {r c' : Nat} {A' : Option Addr} {l' : List Int} {a' e' : Int}
set_option maxRecDepth 100000 in
set_option maxHeartbeats 4000000 in
theorem small_nil_6a (h : Rdr w r A' c' l' a' e') (he : e' ≠ 0) (n : Int) (hn : n < 0) : Calls Try.prog 62 #[.pointer none, .pointer (some ⟨r, 0, none⟩), .agg #[.int .i64 6, .int .i64 n]] w (NilP w r A' c' l' a' e') := by
  have hu86 := Try.underlying86
  have hu := Try.underlying22
  have hb0 := (below_alloc (Below.refl w.heap.size w) (.cells #[.int .i64 6, .int .i64 n] 59))
  have hd := below_drew hb0
  have CC := Aside0.mk (Take_nil ((w.alloc (.cells #[.int .i64 6, .int .i64 n] 59)).drew) 0)
  have RC := fun (W : World) (hW : Below w.heap.size w W) => RTake_calls (h.below hW) 0 (by omega) (by omega)
  simp only [take_off he] at RC
  replace RC := Aside0.mk RC
  have HB := Aside0.mk (fun (W : World) (hW : Below ((w.alloc (.cells #[.int .i64 6, .int .i64 n] 59)).drew).heap.size ((w.alloc (.cells #[.int .i64 6, .int .i64 n] 59)).drew) W) => below_then hd (by show _ ≤ (w.alloc (.cells #[.int .i64 6, .int .i64 n] 59)).heap.size; rw [World.size_alloc]; omega) hW)
  have CV := Aside0.mk (fun (W : World) (A1 : Option Addr) (c1 : Nat) (hF : Kd.C ku W A1 0 []) => (Kd.C_string Try.underlying22 Try.underlying5 Try.underlying9 hF : (convert 22 9 (.slice A1 0 c1)).run Try.prog W = .ok (.string (strOfNums [])) W))
  clear h hb0 hd he
  go_enter Try.func62, Try.ntmps62
  go_wp2
  go_region_with (first
      | (go_at_call 89; refine CC.out.mono ?_; rintro e1 w1 ⟨rfl, hb⟩; have HW1 := Aside0.mk (HB.out w1 hb); have RC1 := Aside0.mk (RC.out w1 HW1.out); have cv1 := CV.out w1 none 0 (Kd.C_nil _ _); clear hb)
      | (go_at_call 90; refine RC1.out.mono ?_; rintro e1 w2 ⟨r2, rfl, ⟨A2, c2, rfl, hc2, hf2⟩, hg, hc⟩; have HG := Aside0.mk (grown_then (grown_of_below HW1.out (some r)) hg); have HC := Aside0.mk hc; have cv2 := CV.out w2 A2 c2 (Kd.F_now hf2); have cv3 := CV.out w2 none 0 (Kd.C_nil _ _); simp only [List.length_nil]; clear hg hc hf2 hc2))
  all_goals
    go_wp2
    go_ret
    exact ⟨rfl, HG.out, HC.out⟩
set_option maxRecDepth 100000 in
set_option maxHeartbeats 4000000 in
theorem small_nil_6b (h : Rdr w r A' c' l' a' e') (he : e' ≠ 0) (n : Int) (hn : ¬ n < 0) (hm : ¬ 2147483648 < n) : Calls Try.prog 62 #[.pointer none, .pointer (some ⟨r, 0, none⟩), .agg #[.int .i64 6, .int .i64 n]] w (NilP w r A' c' l' a' e') := by
  have hu86 := Try.underlying86
  have hu := Try.underlying22
  have hb0 := (below_alloc (Below.refl w.heap.size w) (.cells #[.int .i64 6, .int .i64 n] 59))
  have hd := below_drew hb0
  have CC := Aside0.mk (Take_nil ((w.alloc (.cells #[.int .i64 6, .int .i64 n] 59)).drew) n)
  have RC := fun (W : World) (hW : Below w.heap.size w W) => RTake_calls (h.below hW) n (by omega) (by omega)
  simp only [take_off he] at RC
  replace RC := Aside0.mk RC
  have HB := Aside0.mk (fun (W : World) (hW : Below ((w.alloc (.cells #[.int .i64 6, .int .i64 n] 59)).drew).heap.size ((w.alloc (.cells #[.int .i64 6, .int .i64 n] 59)).drew) W) => below_then hd (by show _ ≤ (w.alloc (.cells #[.int .i64 6, .int .i64 n] 59)).heap.size; rw [World.size_alloc]; omega) hW)
  have CV := Aside0.mk (fun (W : World) (A1 : Option Addr) (c1 : Nat) (hF : Kd.C ku W A1 0 []) => (Kd.C_string Try.underlying22 Try.underlying5 Try.underlying9 hF : (convert 22 9 (.slice A1 0 c1)).run Try.prog W = .ok (.string (strOfNums [])) W))
  have cva : ∀ W, (convert 3 86 (.int .i64 n)).run Try.prog W = .ok (.int .u32 n) W := fun W => by
    go_simp
    simp only [IntKind.wrap_u32]
    omega
  have cvb : ∀ W, (convert 86 40 (.int .u32 n)).run Try.prog W = .ok (.int .u64 n) W := fun W => by
    go_simp
    simp only [IntKind.wrap_u64]
    omega
  clear h hb0 hd he
  go_enter Try.func62, Try.ntmps62
  go_wp2
  go_region_with (first
      | (go_at_call 89; refine CC.out.mono ?_; rintro e1 w1 ⟨rfl, hb⟩; have HW1 := Aside0.mk (HB.out w1 hb); have RC1 := Aside0.mk (RC.out w1 HW1.out); have cv1 := CV.out w1 none 0 (Kd.C_nil _ _); clear hb)
      | (go_at_call 90; refine RC1.out.mono ?_; rintro e1 w2 ⟨r2, rfl, ⟨A2, c2, rfl, hc2, hf2⟩, hg, hc⟩; have HG := Aside0.mk (grown_then (grown_of_below HW1.out (some r)) hg); have HC := Aside0.mk hc; have cv2 := CV.out w2 A2 c2 (Kd.F_now hf2); have cv3 := CV.out w2 none 0 (Kd.C_nil _ _); simp only [List.length_nil]; clear hg hc hf2 hc2))
  all_goals
    go_wp2
    go_ret
    exact ⟨rfl, HG.out, HC.out⟩
set_option maxRecDepth 100000 in
set_option maxHeartbeats 4000000 in
theorem small_nil_6c (h : Rdr w r A' c' l' a' e') (he : e' ≠ 0) (n : Int) (hn : ¬ n < 0) (hm : 2147483648 < n) : Calls Try.prog 62 #[.pointer none, .pointer (some ⟨r, 0, none⟩), .agg #[.int .i64 6, .int .i64 n]] w (NilP w r A' c' l' a' e') := by
  have hu86 := Try.underlying86
  have hu := Try.underlying22
  have hb0 := (below_alloc (Below.refl w.heap.size w) (.cells #[.int .i64 6, .int .i64 n] 59))
  have hd := below_drew hb0
  have CC := Aside0.mk (Take_nil ((w.alloc (.cells #[.int .i64 6, .int .i64 n] 59)).drew) 2147483648)
  have RC := fun (W : World) (hW : Below w.heap.size w W) => RTake_calls (h.below hW) 2147483648 (by omega) (by omega)
  simp only [take_off he] at RC
  replace RC := Aside0.mk RC
  have HB := Aside0.mk (fun (W : World) (hW : Below ((w.alloc (.cells #[.int .i64 6, .int .i64 n] 59)).drew).heap.size ((w.alloc (.cells #[.int .i64 6, .int .i64 n] 59)).drew) W) => below_then hd (by show _ ≤ (w.alloc (.cells #[.int .i64 6, .int .i64 n] 59)).heap.size; rw [World.size_alloc]; omega) hW)
  have CV := Aside0.mk (fun (W : World) (A1 : Option Addr) (c1 : Nat) (hF : Kd.C ku W A1 0 []) => (Kd.C_string Try.underlying22 Try.underlying5 Try.underlying9 hF : (convert 22 9 (.slice A1 0 c1)).run Try.prog W = .ok (.string (strOfNums [])) W))
  clear h hb0 hd he
  go_enter Try.func62, Try.ntmps62
  go_wp2
  go_region_with (first
      | (go_at_call 89; refine CC.out.mono ?_; rintro e1 w1 ⟨rfl, hb⟩; have HW1 := Aside0.mk (HB.out w1 hb); have RC1 := Aside0.mk (RC.out w1 HW1.out); have cv1 := CV.out w1 none 0 (Kd.C_nil _ _); clear hb)
      | (go_at_call 90; refine RC1.out.mono ?_; rintro e1 w2 ⟨r2, rfl, ⟨A2, c2, rfl, hc2, hf2⟩, hg, hc⟩; have HG := Aside0.mk (grown_then (grown_of_below HW1.out (some r)) hg); have HC := Aside0.mk hc; have cv2 := CV.out w2 A2 c2 (Kd.F_now hf2); have cv3 := CV.out w2 none 0 (Kd.C_nil _ _); simp only [List.length_nil]; clear hg hc hf2 hc2))
  all_goals
    go_wp2
    go_ret
    exact ⟨rfl, HG.out, HC.out⟩
/-- read by a cursor that is none, beside a reader that has failed. -/
theorem read_nil (h : Rdr w r A' c' l' a' e') (h6 : l'.length ≤ 6000) (he : e' ≠ 0) (k n : Int) : Calls Try.prog 34 #[.pointer none, .pointer (some ⟨r, 0, none⟩), .agg #[.int .i64 k, .int .i64 n]] w (NilP w r A' c' l' a' e') := by
  by_cases h0 : k < 1 ∨ 15 < k
  · exact read_nil_none h k n h0
  by_cases h1 : k ≤ 10
  · have hb := below_alloc (Below.refl w.heap.size w) (.cells #[.int .i64 k, .int .i64 n] 59)
    refine read_small k n ⟨by omega, h1⟩ _ _ _ ?_ (fun en w' hp => ⟨true, hp.1⟩)
    have S : Calls Try.prog 62 #[.pointer none, .pointer (some ⟨r, 0, none⟩), .agg #[.int .i64 k, .int .i64 n]] (w.alloc (.cells #[.int .i64 k, .int .i64 n] 59)) (NilP (w.alloc (.cells #[.int .i64 k, .int .i64 n] 59)) r A' c' l' a' e') := by
      have h2 := h.below hb
      have hk : k = 1 ∨ k = 2 ∨ k = 3 ∨ k = 4 ∨ k = 5 ∨ k = 6 ∨ k = 7 ∨ k = 8 ∨ k = 9 ∨ k = 10 := by omega
      rcases hk with rfl | rfl | rfl | rfl | rfl | rfl | rfl | rfl | rfl | rfl
      · exact small_nil_1 h2 h6 he n
      · exact small_nil_2 h2 h6 he n
      · exact small_nil_3 h2 h6 he n
      · exact small_nil_4 h2 h6 he n
      · exact small_nil_5 h2 h6 he n
      · by_cases c1 : n < 0
        · exact small_nil_6a h2 he n c1
        by_cases c2 : 2147483648 < n
        · exact small_nil_6c h2 he n c1 c2
        · exact small_nil_6b h2 he n c1 c2
      · exact small_nil_7 h2 h6 he n
      · exact small_nil_8 h2 h6 he n
      · exact small_nil_9 h2 h6 he n
      · exact small_nil_10 h2 h6 he n
    refine S.mono ?_
    rintro en w' ⟨rfl, hg, hc⟩
    exact ⟨rfl, grown_then (grown_of_below hb (some r)) hg, hc⟩
  · have hk : k = 11 ∨ k = 12 ∨ k = 13 ∨ k = 14 ∨ k = 15 := by omega
    rcases hk with rfl | rfl | rfl | rfl | rfl
    · exact read_nil_11 h h6 he n
    · exact read_nil_12 h h6 he n
    · exact read_nil_13 h h6 he n
    · exact read_nil_14 h h6 he n
    · by_cases c1 : n ≤ 0
      · exact read_nil_15z h n c1
      by_cases c2 : n ≤ 1000
      · exact read_nil_15y h he n n (.inl ⟨by omega, c2, rfl⟩)
      · exact read_nil_15y h he n 1000 (.inr ⟨by omega, rfl⟩)
end
section
variable {w w1 w2 W W' : World} {g r c c' : Nat} {A A' : Option Addr} {l l' : List Int} {a e a' e' a1 e1 : Int}
theorem ReadP.of {w0 : World} {s s' : Int × Int} {same : Prop} {en : Ending} {w' : World} (hb : Below w.heap.size w w0) (h : ReadP w0 g r A c l s A' c' l' s' same en w') : ReadP w g r A c l s A' c' l' s' same en w' := by
  obtain ⟨bv, e1, e2, e3, e4⟩ := h
  exact ⟨bv, e1, e2, ((Grown2.refl w g r).below hb).trans e3, e4⟩
/-- read by a cursor and a reader: both go where the model says, and alike where they stand alike. -/
theorem read_calls (h : Both w g r A c l a e A' c' l' a' e') (k n : Int) : Calls Try.prog 34 #[.pointer (some ⟨g, 0, none⟩), .pointer (some ⟨r, 0, none⟩), .agg #[.int .i64 k, .int .i64 n]] w (ReadP w g r A c l (opM k n l a e) A' c' l' (opM k n l' a' e') (l = l' ∧ a = a' ∧ e = e')) := by
  by_cases h0 : k < 1 ∨ 15 < k
  · have E : ∀ (l : List Int) (a e : Int), opM k n l a e = (a, e) := fun l a e => by
      unfold opM
      rw [if_neg (by omega), if_neg (by omega), if_neg (by omega), if_neg (by omega), if_neg (by omega), if_neg (by omega), if_neg (by omega), if_neg (by omega), if_neg (by omega), if_neg (by omega), if_neg (by omega), if_neg (by omega), if_neg (by omega), if_neg (by omega), if_neg (by omega)]
    rw [E, E]
    exact read_none h k n h0
  by_cases h1 : k ≤ 10
  · have hb := below_alloc (Below.refl w.heap.size w) (.cells #[.int .i64 k, .int .i64 n] 59)
    refine read_small k n ⟨by omega, h1⟩ _ _ _ ?_ (fun en w' hp => ⟨hp.choose, hp.choose_spec.1⟩)
    have S : Calls Try.prog 62 #[.pointer (some ⟨g, 0, none⟩), .pointer (some ⟨r, 0, none⟩), .agg #[.int .i64 k, .int .i64 n]] (w.alloc (.cells #[.int .i64 k, .int .i64 n] 59)) (ReadP (w.alloc (.cells #[.int .i64 k, .int .i64 n] 59)) g r A c l (opM k n l a e) A' c' l' (opM k n l' a' e') (l = l' ∧ a = a' ∧ e = e')) := by
      have h2 := h.below hb
      have hk : k = 1 ∨ k = 2 ∨ k = 3 ∨ k = 4 ∨ k = 5 ∨ k = 6 ∨ k = 7 ∨ k = 8 ∨ k = 9 ∨ k = 10 := by omega
      rcases hk with rfl | rfl | rfl | rfl | rfl | rfl | rfl | rfl | rfl | rfl
      · exact small_1 h2 n
      · exact small_2 h2 n
      · exact small_3 h2 n
      · exact small_4 h2 n
      · exact small_5 h2 n
      · by_cases c1 : n < 0
        · exact small_6a h2 n c1
        by_cases c2 : 2147483648 < n
        · exact small_6c h2 n c1 c2
        · exact small_6b h2 n c1 c2
      · exact small_7 h2 n
      · exact small_8 h2 n
      · exact small_9 h2 n
      · exact small_10 h2 n
    exact S.mono fun en w' hp => hp.of hb
  · have hk : k = 11 ∨ k = 12 ∨ k = 13 ∨ k = 14 ∨ k = 15 := by omega
    rcases hk with rfl | rfl | rfl | rfl | rfl
    · exact read_11 h n
    · exact read_12 h n
    · exact read_13 h n
    · exact read_14 h n
    · have E : ∀ (l : List Int) (a e : Int), opM 15 n l a e = if failN n = 0 then (a, e) else (a, fl (failN n) e) := fun l a e => rfl
      rw [E, E]
      unfold failN
      by_cases c1 : n ≤ 0
      · rw [if_pos (by omega), if_pos (by omega)]
        exact read_15z h n c1
      · rw [if_neg (by omega), if_neg (by omega)]
        exact read_15y h n _ (by omega)
end
end Go.Proofs.Ytjhdnlgbboboiaa.Scan

/- The walk of trunnionlaw17.awake: it returns true. -/
namespace Go.Proofs.Ytjhdnlgbboboiaa.Scan
open Go.Proofs.Ytjhdnlgbboboiaa.Leb Go.Proofs.Ytjhdnlgbboboiaa.Mem Go.RowKit Go.Proofs.YtjhdnlgbboboiaaW.PrintWords Go.Proofs.YtjhdnlgbboboiaaW.PrintLast Go.Proofs.YtjhdnlgbboboiaaW.PrintMore Go.Proofs.Ytjhdnlgbboboiaa.Base
set_option linter.unusedVariables false
set_option linter.unusedSimpArgs false
theorem below_grown {w w1 w2 : World} {B g : Nat} (h : Below B w w1) (hg : w1.grownBy w2 (some g)) (hB : B ≤ g) (hs : B ≤ w1.heap.size) : Below B w w2 :=
  ⟨hg.os.trans h.os, hg.tape.trans h.tape, hg.output.trans h.output, Nat.le_trans h.size hg.size, fun i hi => (hg.block i (by omega) (fun e => by have := Option.some.inj e; omega)).trans (h.block i hi)⟩
theorem aw_f : funcM [96, 1, 127, 0] 0 0 = (([127], []), 4, 0) := by decide +kernel
theorem aw_l : limitsM [1, 5, 7] 0 0 = ((5, 7, true), 3, 0) := by decide +kernel
set_option maxRecDepth 100000 in
set_option maxHeartbeats 1000000 in
theorem awake_calls (w : World) : Calls Try.prog 32 #[] w fun e w' => e = .returned (.bool true) ∧ Below w.heap.size w w' := by
  have n1 : ∀ W : World, Calls Try.prog 33 #[.slice (some ⟨W.heap.size, 0, none⟩) 4 4] (W.alloc (.cells #[.int .u8 96, .int .u8 1, .int .u8 127, .int .u8 0] 5)) fun en w' => ∃ g A c, en = .returned (.pointer (some ⟨g, 0, none⟩)) ∧ Below W.heap.size W w' ∧ W.heap.size ≤ g ∧ Cur w' g A c [96, 1, 127, 0] 0 0 := by
    intro W
    refine (New_calls _ _ 4 [96, 1, 127, 0] (by decide) (by unfold okB; decide) (C_lit W [96, 1, 127, 0] (by decide))).mono ?_
    rintro en w' ⟨g, A, c, rfl, hb, hg, hc⟩
    rw [World.size_alloc] at hg
    exact ⟨g, A, c, rfl, below_then ((Below.refl W.heap.size W).alloc (Nat.le_refl _) _) (by simp) hb, by omega, hc⟩
  have n2 : ∀ W : World, Calls Try.prog 33 #[.slice (some ⟨W.heap.size, 0, none⟩) 3 3] (W.alloc (.cells #[.int .u8 1, .int .u8 5, .int .u8 7] 5)) fun en w' => ∃ g A c, en = .returned (.pointer (some ⟨g, 0, none⟩)) ∧ Below W.heap.size W w' ∧ W.heap.size ≤ g ∧ Cur w' g A c [1, 5, 7] 0 0 := by
    intro W
    refine (New_calls _ _ 3 [1, 5, 7] (by decide) (by unfold okB; decide) (C_lit W [1, 5, 7] (by decide))).mono ?_
    rintro en w' ⟨g, A, c, rfl, hb, hg, hc⟩
    rw [World.size_alloc] at hg
    exact ⟨g, A, c, rfl, below_then ((Below.refl W.heap.size W).alloc (Nat.le_refl _) _) (by simp) hb, by omega, hc⟩
  have f1 : ∀ (W : World) (g : Nat) (A : Option Addr) (c : Nat), Cur W g A c [96, 1, 127, 0] 0 0 → Calls Try.prog 53 #[.pointer (some ⟨g, 0, none⟩)] W (DidP W g A c [96, 1, 127, 0] (FuncP W.heap.size [127] []) 4 0) := fun W g A c hc => by
    have h := Func_calls hc
    rw [aw_f] at h
    exact h
  have l1 : ∀ (W : World) (g : Nat) (A : Option Addr) (c : Nat), Cur W g A c [1, 5, 7] 0 0 → Calls Try.prog 54 #[.pointer (some ⟨g, 0, none⟩)] W (Did W g A c [1, 5, 7] (.agg #[.int .u32 5, .int .u32 7, .bool true]) 3 0) := fun W g A c hc => by
    have h := Limits_calls hc
    rw [aw_l] at h
    exact h
  have N1 := Aside0.mk n1
  have N2 := Aside0.mk n2
  have F1 := Aside0.mk f1
  have L1 := Aside0.mk l1
  have eq1 := eq_lim88 5 5 7 7 true true
  have eg : Try.prog.eqGuardType Try.prog.depth 88 = false := by kernel_rfl
  have hu := Try.underlying22
  clear n1 n2 f1 l1
  go_enter Try.func32, Try.ntmps32
  go_wp2_with fail
  refine (N1.out w).mono ?_
  rintro e w1 ⟨g1, A1, c1, rfl, hb, hg1, hc⟩
  have HB1 := Aside0.mk hb
  have HG1 := Aside0.mk hg1
  have FC := Aside0.mk (F1.out w1 g1 A1 c1 hc)
  clear hb hg1 hc
  go_wp2_with fail
  refine FC.out.mono ?_
  rintro e w2 ⟨_, rfl, ⟨A2, c2, A3, c3, rfl, hcc, hF1, hF2⟩, hg, hc⟩
  have HB2 := Aside0.mk (below_grown HB1.out hg HG1.out HB1.out.size)
  have HF1 := Aside0.mk hF1
  have Q := Aside0.mk (heap_alloc_new w2 (.cells #[.slice A2 1 c2, .slice A3 0 c3] 84))
  have nn := N2.out (w2.alloc (.cells #[.slice A2 1 c2, .slice A3 0 c3] 84))
  rw [World.size_alloc] at nn
  replace nn := Aside0.mk nn
  clear hg hc hF1 hF2 hcc
  go_wp2_with fail
  refine nn.out.mono ?_
  rintro e w3 ⟨g3, A4, c4, rfl, hb, hg3, hc⟩
  rw [← World.size_alloc w2 (.cells #[.slice A2 1 c2, .slice A3 0 c3] 84)] at hb hg3
  have HB3 := Aside0.mk hb
  have HG3 := Aside0.mk hg3
  have LC := Aside0.mk (L1.out w3 g3 A4 c4 hc)
  clear hb hg3 hc
  go_wp2_with fail
  refine LC.out.mono ?_
  rintro e w4 ⟨rfl, hg, hc⟩
  have HB4 := Aside0.mk (below_grown HB3.out hg HG3.out HB3.out.size)
  have q4 := (HB4.out.block _ (blk_lt Q.out)).trans Q.out
  have y0 := (blk_cell q4 0).trans rfl
  have y1 := (blk_cell q4 1).trans rfl
  obtain ⟨ad, eA, z0⟩ := head_cell (Kd.F_step (Kd.F_step HF1.out fun k hk hlt => heap_alloc_old _ hlt) fun k hk hlt => HB4.out.block k hlt) (by decide)
  subst eA
  clear hg hc q4
  go_wp2
  go_ret
  exact ⟨rfl, below_then (HB2.out.alloc HB2.out.size _) (by rw [World.size_alloc]; have := HB2.out.size; omega) HB4.out⟩
end Go.Proofs.Ytjhdnlgbboboiaa.Scan
