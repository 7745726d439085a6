/- The plain law of what is put: characters one behind the other are a name, with any name behind it. -/
import Derived.Test.YtjhdnlgbboboiaaUtfPut
import Derived.Test.YtjhdnlgbboboiaaUtfCut
namespace Go.Proofs.Ytjhdnlgbboboiaa.Utf
open Go.RowKit Go.Proofs.YtjhdnlgbboboiaaW.PrintWords Go.Proofs.YtjhdnlgbboboiaaW.PrintLast Go.Proofs.YtjhdnlgbboboiaaW.PrintMore Go.Proofs.Ytjhdnlgbboboiaa.Base Go.Proofs.Ytjhdnlgbboboiaa.Leb
set_option linter.unusedVariables false

theorem uDec_enc {c : Int} (h : ¬ badRune c) (t : List Int) : uDec (encL c ++ t) = some (c, (encL c).length) := by
  have hbad : ¬ (c < 0 ∨ c > 1114111 ∨ 55296 ≤ c ∧ c ≤ 57343) := h
  unfold badRune at h
  by_cases c1 : c < 128
  · have e1 : encL c = [c] := by
      unfold encL
      rw [if_neg hbad, if_pos c1]
    rw [e1]
    simp only [uDec, sDec, rd, cont, List.cons_append, List.nil_append, List.length_cons, List.length_nil]
    simp
    omega
  by_cases c2 : c < 2048
  · have e1 : encL c = [192 + c / 64, 128 + c % 64] := by
      unfold encL
      rw [if_neg hbad, if_neg c1, if_pos c2]
    rw [e1]
    simp only [uDec, rd, List.cons_append, List.nil_append, List.length_cons, List.length_nil]
    simp
    unfold sDec cont
    rw [if_neg (by omega), if_pos (by omega)]
    simp
    omega
  by_cases c3 : c < 65536
  · have e1 : encL c = [224 + c / 4096, 128 + c / 64 % 64, 128 + c % 64] := by
      unfold encL
      rw [if_neg hbad, if_neg c1, if_neg c2, if_pos c3]
    rw [e1]
    simp only [uDec, rd, List.cons_append, List.nil_append, List.length_cons, List.length_nil]
    simp
    unfold sDec cont
    rw [if_neg (by omega), if_neg (by omega), if_pos (by omega)]
    simp
    omega
  · have e1 : encL c = [240 + c / 262144, 128 + c / 4096 % 64, 128 + c / 64 % 64, 128 + c % 64] := by
      unfold encL
      rw [if_neg hbad, if_neg c1, if_neg c2, if_neg c3]
    rw [e1]
    simp only [uDec, rd, List.cons_append, List.nil_append, List.length_cons, List.length_nil]
    simp
    unfold sDec cont
    rw [if_neg (by omega), if_neg (by omega), if_neg (by omega), if_pos (by omega)]
    simp
    omega
/-- The bytes of numbers, one behind the other; those that are no character have none. -/
def encs (l : List Int) : List Int := l.flatMap encL
/-- How many of the numbers are characters. -/
def goods : List Int → Nat
  | [] => 0
  | c :: t => (if badRune c then 0 else 1) + goods t
theorem encs_cons (c : Int) (t : List Int) : encs (c :: t) = encL c ++ encs t := by simp [encs]
theorem encs_snoc (l : List Int) (c : Int) : encs (l ++ [c]) = encs l ++ encL c := by simp [encs]
theorem goods_snoc (l : List Int) (c : Int) : goods (l ++ [c]) = goods l + (if badRune c then 0 else 1) := by
  induction l with
  | nil => simp [goods]
  | cons x t ih => simp only [List.cons_append, goods, ih]; omega
theorem goods_len (l : List Int) : goods l ≤ l.length := by
  induction l with
  | nil => simp [goods]
  | cons x t ih => simp only [goods, List.length_cons]; split <;> omega
theorem encL_four (c : Int) : (encL c).length ≤ 4 := by
  by_cases h : badRune c
  · rw [encL_bad h]; simp
  · exact (encL_len h).2
theorem encs_len (l : List Int) : (encs l).length ≤ 4 * l.length := by
  induction l with
  | nil => simp [encs]
  | cons x t ih =>
    rw [encs_cons, List.length_append, List.length_cons]
    have := encL_four x
    omega
theorem okB_app {a b : List Int} (ha : okB a) (hb : okB b) : okB (a ++ b) := fun x hx => (List.mem_append.1 hx).elim (ha x) (hb x)
theorem encs_ok (l : List Int) : okB (encs l) := by
  induction l with
  | nil => intro x hx; simp [encs] at hx
  | cons x t ih => rw [encs_cons]; exact okB_app (encL_ok x) ih
theorem uCnt_succ (d : Nat) (m : List Int) : uCnt (d + 1) m = if m.length = 0 then some 0 else match uDec m with
    | none => none
    | some (_, n) => (uCnt d (m.drop n)).map (· + 1) := rfl
theorem uCnt_encs (l m : List Int) (hok : okB m) : ∀ d, (encs l ++ m).length ≤ d → uCnt d (encs l ++ m) = (uCnt m.length m).map (· + (goods l : Int)) := by
  induction l with
  | nil =>
    intro d hd
    have e : encs [] ++ m = m := by simp [encs]
    rw [e] at hd ⊢
    rw [uCnt_more m.length d m hok (Nat.le_refl _) hd]
    simp [goods]
  | cons c t ih =>
    intro d hd
    rw [encs_cons, List.append_assoc] at hd ⊢
    by_cases h : badRune c
    · rw [encL_bad h] at hd ⊢
      rw [List.nil_append] at hd ⊢
      rw [ih d hd]
      simp only [goods, h, if_true, Nat.zero_add]
    · have hl := encL_len h
      rw [List.length_append] at hd
      obtain ⟨d, rfl⟩ : ∃ d', d = d' + 1 := ⟨d - 1, by omega⟩
      rw [uCnt_succ, if_neg (by rw [List.length_append]; omega), uDec_enc h]
      simp only []
      rw [List.drop_left, ih d (by omega), Option.map_map]
      congr 1
      funext x
      simp only [Function.comp, goods, h, if_false]
      omega
def cntI (m : List Int) : Int := (uCnt m.length m).getD 0
theorem count_is (A : Option Addr) (c : Nat) (l : List Int) (w : World) (hok : okB l) (hl : l.length ≤ 1000000) (hr : Kd.C (Kd.int .u8) w A l.length l) :
    Calls Try.prog 18 #[.slice A l.length c] w fun e w' => e = .returned (.tuple #[.int .i64 (cntI l), .bool (isName l)]) ∧ Below w.heap.size w w' := by
  have h := countSF_is l hok hl
  unfold countSF at h
  rw [if_pos hl] at h
  have h := Option.some.inj h
  have e : countV (countT (strOfNums l)) = .tuple #[.int .i64 (cntI l), .bool (isName l)] := by
    unfold countV cntI isName
    cases he : uCnt l.length l with
    | none => rw [he] at h; simp only [Prod.mk.injEq] at h; rw [h.1, h.2]; rfl
    | some k => rw [he] at h; simp only [Prod.mk.injEq] at h; rw [h.1, h.2]; rfl
  rw [← e]
  exact Count_calls A c l w hl hr
theorem valid_is (A : Option Addr) (c : Nat) (l : List Int) (w : World) (hok : okB l) (hl : l.length ≤ 1000000) (hr : Kd.C (Kd.int .u8) w A l.length l) :
    Calls Try.prog 20 #[.slice A l.length c] w fun e w' => e = .returned (.bool (isName l)) ∧ Below w.heap.size w w' := by
  have h := countSF_is l hok hl
  unfold countSF at h
  rw [if_pos hl] at h
  have h := Option.some.inj h
  have e : (countT (strOfNums l)).1 = isName l := by
    unfold isName
    cases he : uCnt l.length l with
    | none => rw [he] at h; simp only [Prod.mk.injEq] at h; rw [h.2]; rfl
    | some k => rw [he] at h; simp only [Prod.mk.injEq] at h; rw [h.2]; rfl
  rw [← e]
  exact Valid_calls A c l w hl hr
theorem name_all (l m : List Int) (hok : okB m) : isName (encs l ++ m) = isName m := by
  unfold isName
  rw [uCnt_encs l m hok _ (Nat.le_refl _)]
  cases uCnt m.length m <;> rfl
theorem cnt_all (l m : List Int) (hok : okB m) (h : isName m = true) : cntI (encs l ++ m) = (goods l : Int) + cntI m := by
  unfold isName at h
  unfold cntI
  rw [uCnt_encs l m hok _ (Nat.le_refl _)]
  cases he : uCnt m.length m with
  | none => rw [he] at h; cases h
  | some k => simp; omega
theorem okB_nil : okB [] := fun x hx => by simp at hx
theorem name_encs (l : List Int) : isName (encs l) = true := by
  have h := name_all l [] okB_nil
  rw [List.append_nil] at h
  rw [h]; rfl
theorem cnt_encs (l : List Int) : cntI (encs l) = (goods l : Int) := by
  have h := cnt_all l [] okB_nil rfl
  rw [List.append_nil] at h
  rw [h]
  show (goods l : Int) + 0 = _
  omega
theorem okB_255 : okB [255] := fun x hx => by simp at hx; omega
theorem name_255 (l : List Int) : isName (encs l ++ [255]) = false := by
  rw [name_all l [255] okB_255]
  decide +kernel
theorem name_128 (l : List Int) : isName ([128] ++ encs l) = false :=
  isName_none (by simp) (uDec_cont (by simp [rd, cont]))
theorem okB_128 (l : List Int) : okB ([128] ++ encs l) := okB_app (fun x hx => by simp at hx; omega) (encs_ok l)
theorem next_is (p : List Int) (c : Int) (h : ¬ badRune c) (hp : p.length ≤ 100) : nextF (encs p ++ encL c) ((encs p).length : Int) = (c, ((encs p ++ encL c).length : Int), true) := by
  have h1 := encs_len p
  have h2 := encL_len h
  rw [nextF_is _ (okB_app (encs_ok p) (encL_ok c)) _ (by rw [List.length_append]; omega) (by rw [List.length_append]; omega), List.drop_left]
  have h3 := uDec_enc h []
  rw [List.append_nil] at h3
  rw [h3]
  simp
end Go.Proofs.Ytjhdnlgbboboiaa.Utf
