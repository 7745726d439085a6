/- Answers and calls, turned into the reference's. -/
import Derived.Test.YtkpjdkmggbelfaaHostLike
namespace Go.Proofs.Ytkpjdkmggbelfaa.Host
open Go.RowKit Go.Proofs.YtkpjdkmggbelfaaW.PrintWords Go.Proofs.YtkpjdkmggbelfaaW.PrintLast Go.Proofs.YtkpjdkmggbelfaaW.PrintMore Go.Proofs.Ytkpjdkmggbelfaa.Mem Go.Proofs.Ytkpjdkmggbelfaa.PHostPlays
set_option linter.unusedVariables false
set_option linter.unusedSimpArgs false
theorem info112 : (Try.prog.info? 112).map (fun i => (i.zero, i.size, i.bytes)) = some (some (.agg #[.bool false, .slice none 0 0]), 2, 32) := by kernel_rfl
theorem info164 : (Try.prog.info? 164).map (fun i => (i.zero, i.size, i.bytes)) = some (some (.agg #[.string ⟨#[]⟩, .slice none 0 0]), 2, 40) := by kernel_rfl
theorem at_F109 {w : World} {A : Option Addr} {n : Nat} {xs : List S109} {ok : Nat → Prop} (h : Kd.F k109 w ok A n xs) (i : Int) (h0 : 0 ≤ i) (h1 : i < n) : ∃ ad A1 c1, A = some ad ∧ w.cell? (ad.add (i.toNat * 2)) = some (.bool (rd_T109 xs i).f0) ∧ w.cell? ⟨(ad.add (i.toNat * 2)).block, (ad.add (i.toNat * 2)).off + 1, none⟩ = some (.slice A1 (rd_T109 xs i).f1.length c1) ∧ (rd_T109 xs i).f1.length ≤ c1 ∧ Kd.F kw w ok A1 (rd_T109 xs i).f1.length (rd_T109 xs i).f1 := by
  obtain ⟨ad, c, e, _, hK, hc0, _⟩ := Kd.F_get h z109 i h0 h1
  have hc : ∀ j u, c[j]? = some u → w.cell? (ad.add (i.toNat * 2 + j)) = some u := hc0
  obtain ⟨A1, c1, rfl, l1, g1⟩ := k109_openF hK
  exact ⟨ad, A1, c1, e, hc 0 _ rfl, by rw [← add_field _ _ 1 (by omega)]; exact hc 1 _ rfl, l1, g1⟩
structure AnsInv (base : Nat) (w wr : World) (v : Value) (l : List S112) : Prop where
  row : Row k112 112 wr (fun k => k < base) v l
  own : ∀ b, v.ownBlock = some b → w.heap.size ≤ b
  below : Below w.heap.size w wr
def AnsPost (base : Nat) (w : World) (l : List S109) (e : Ending) (w' : World) : Prop :=
  ∃ A c, e = .returned (.slice A l.length c) ∧ AnsInv base w w' (.slice A l.length c) (l.map cvA)
theorem Ans_step {base : Nat} {w wr w3 : World} {A A2 : Option Addr} {c c2 : Nat} {l : List S112} {X : S112} {rows : List (List Value)} {v1 : Value} {W2 : World} (hF : AnsInv base w wr (.slice A l.length c) l) (hbase : base ≤ w.heap.size) (hrl : rows.length = l.length)
    (hf : ∀ (j : Nat) (x : S112) (cs : List Value), l[j]? = some x → rows[j]? = some cs → Kd.FK k112 wr (fun k => k < base) x cs)
    (hb : Below wr.heap.size wr W2) (hr : Kd.F kw wr (fun k => k < base) A2 X.f1.length X.f1) (hlc : X.f1.length ≤ c2)
    (h1 : Loose w3 112 2 v1 (l.length + 1) (rows.flatten ++ [.bool X.f0, .slice A2 X.f1.length c2])) (h2 : W2.grownBy w3 (Value.slice A l.length c).ownBlock)
    (h3 : v1.ownBlock = (Value.slice A l.length c).ownBlock ∨ ∃ b, v1.ownBlock = some b ∧ W2.heap.size ≤ b) :
    AnsInv base w w3 v1 (l ++ [X]) := by
  have hs0 := hF.below.size
  have hs1 := hb.size
  have hs3 := h2.size
  have hown : ∀ b, v1.ownBlock = some b → w.heap.size ≤ b := by
    intro b hb
    rcases h3 with e | ⟨b', e, hle⟩
    · exact hF.own b (e.symm.trans hb)
    · rw [e] at hb
      injection hb with hb
      omega
  have hR := Row.appended (d := k112) (e := 112) (xs := l) (ys := [X]) (ok := fun k => k < base) (W := W2) (w1 := w3) (v := .slice A l.length c) (rows := rows) (news := [[.bool X.f0, .slice A2 X.f1.length c2]]) hrl
    (fun j x c hx hc => Kd.FK_step (hf j x c hx hc) fun k _ hlt => hb.block k hlt) rfl
    (fun j x cc hx hc => by
      cases j with
      | succ j => simp at hx
      | zero =>
        simp only [List.getElem?_cons_zero, Option.some.injEq] at hx hc
        subst hx hc
        exact k112_mkF W2 _ _ hlc (Kd.F_step hr fun k _ hlt => hb.block k hlt))
    h1 h2 (fun k hk e => by have := hF.own k e.symm; omega)
  exact ⟨hR, hown, ((hF.below.trans (hb.mono (by omega))).grown h2 (by omega) fun k hk => hF.own k hk)⟩
set_option maxRecDepth 100000 in
set_option maxHeartbeats 8000000 in
theorem Ans_calls (base : Nat) (w : World) (A : Option Addr) (c : Nat) (l : List S109) (hbase : base ≤ w.heap.size) (hl : l.length ≤ 4398046510976) (ha : Kd.F k109 w (fun k => k < base) A l.length l) :
    Calls Try.prog 25 #[.slice A l.length c] w (AnsPost base w l) := by
  have hu := Try.underlying109
  have hu2 := Try.underlying75
  have hu3 := Try.underlying70
  have HA := Aside0.mk ha
  have HN := Aside0.mk hl
  have HBS := Aside0.mk hbase
  have AF : Aside0 (AnsInv base w w (.slice none 0 0) []) := ⟨⟨Row.nil _ _ _ _, (fun b hb => by cases hb), Below.refl _ _⟩⟩
  clear hl ha hbase
  go_enter Try.func25, Try.ntmps25
  go_wp2
  go_loopg [3, 8] l.length (fun d v3 v8 w' => ∃ (i : Nat), v8 = .int .i64 (i : Int) ∧ Aside0 (i + d = l.length) ∧ Aside0 (AnsInv base w w' v3 ((l.map cvA).take i)))
  case atStart => exact ⟨0, rfl, ⟨by omega⟩, ⟨by rw [List.take_zero]; exact AF.out⟩⟩
  case round =>
    obtain ⟨i, rfl, HD, HF⟩ := hrel
    clear AF
    have hd := HD.out
    have hlen := HN.out
    cases gk with
    | zero =>
      have e1 : decide (i < l.length) = false := decide_eq_false (by omega)
      have hi : i = l.length := by omega
      subst hi
      have hF := HF.out
      rw [show (l.map cvA).take l.length = l.map cvA from List.take_of_length_le (by simp)] at hF
      have HF2 := Aside0.mk hF
      obtain ⟨A, c, rfl⟩ := hF.row.one
      clear hd hlen hF HF
      go_wp2
      go_ret
      have hf := HF2.out
      rw [List.length_map] at hf
      exact ⟨A, c, by rw [List.length_map]; rfl, hf⟩
    | succ d =>
      have hi : i < l.length := by omega
      have e1 : decide (i < l.length) = true := decide_eq_true hi
      have hiI : (i : Int) ≤ 140737488351232 := by omega
      have hw1 : wrap64 ((i : Int) + 1) = (i : Int) + 1 := by unfold wrap64; omega
      have hF := HF.out
      have ha1 : Kd.F k109 wr (fun k => k < base) A l.length l := Kd.F_step HA.out fun k _ hlt => hF.below.block k hlt
      obtain ⟨ad, A1, c1, eA, x0, x1, m1, q1⟩ := at_F109 ha1 (i : Int) (by omega) (by omega)
      subst eA
      have htk : (l.map cvA).take (i + 1) = (l.map cvA).take i ++ [cvA (rd_T109 l (i : Int))] := by
        rw [List.take_succ_eq_append_getElem (by simpa using hi), show rd_T109 l (i : Int) = l[i] from getD_at hi, List.getElem_map]
      obtain ⟨X, hX⟩ : ∃ X, X = rd_T109 l (i : Int) := ⟨_, rfl⟩
      rw [← hX] at x0 x1 m1 q1 htk
      clear hX
      have HTK := Aside0.mk htk
      simp only [Int.toNat_natCast] at x0 x1
      have hcl : ((l.map cvA).take i).length ≤ 4398046510976 := by rw [List.length_take]; omega
      obtain ⟨L, hL0⟩ : ∃ L, L = (l.map cvA).take i := ⟨_, rfl⟩
      rw [← hL0] at hF hcl HTK
      have HL0 := Aside0.mk hL0
      obtain ⟨A, c, rfl⟩ := hF.row.one
      obtain ⟨rows, hrl, hL, hf⟩ := hF.row
      have HFF := Aside0.mk hF
      have HCL := Aside0.mk hcl
      have HR := Aside0.mk hL
      have HRL := Aside0.mk hrl
      have HRF := Aside0.mk hf
      have HQ := Aside0.mk q1
      have HM := Aside0.mk m1
      have HB := Aside0.mk ((below_alloc (Below.refl wr.heap.size wr) (.cells #[.bool X.f0, .slice A1 X.f1.length c1] 109)).alloc (by rw [World.size_alloc]; omega) (.cells #[.bool X.f0, .slice A1 X.f1.length c1] 112))
      have HS : Aside0 (RawSrc ((wr.alloc (.cells #[.bool X.f0, .slice A1 X.f1.length c1] 109)).alloc (.cells #[.bool X.f0, .slice A1 X.f1.length c1] 112)) 2 (some ⟨wr.heap.size + 1, 0, none⟩) 1 [.bool X.f0, .slice A1 X.f1.length c1]) := Aside0.mk (by
        have := lit_src2 (wr.alloc (.cells #[.bool X.f0, .slice A1 X.f1.length c1] 109)) 112 2 (.bool X.f0) (.slice A1 X.f1.length c1) rfl rfl rfl
        rw [World.size_alloc] at this
        exact this)
      clear hF ha1 q1 htk hrl hL hf hcl hd hlen m1 hL0 HF
      go_wp2_with (first
        | (at_builtin
           refine loose_append rfl (.tmp 12) (.tmp 14) 70 112 (.agg #[.bool false, .slice none 0 0]) 2 32 rfl Try.underlying70 info112 rfl (by decide) (by decide) (.slice A L.length c) L.length rows.flatten (some ⟨wr.heap.size + 1, 0, none⟩) 1 1 [.bool X.f0, .slice A1 X.f1.length c1] (by simp [Act.eval, Act.put]) (by simp [Act.eval, Act.put]) ?cO ?cR ?cL ?_
           case cO => exact (HR.out.move fun k hk => HB.out.block k (HR.out.lt k hk))
           case cR => exact HS.out
           case cL => have := HCL.out; omega
           intro v1 w3 h1 h2 h3
           have G1 := Aside0.mk h1
           have G2 := Aside0.mk h2
           have G3 := Aside0.mk h3
           clear h1 h2 h3)
        | fail)
      go_roundg d
      case measure => omega
      case rel =>
        refine ⟨i + 1, by push_cast; rfl, ⟨by have := HD.out; omega⟩, ⟨?_⟩⟩
        have fin := Ans_step (X := cvA X) HFF.out HBS.out HRL.out HRF.out HB.out HQ.out HM.out G1.out G2.out G3.out
        rw [← HTK.out] at fin
        exact fin
theorem at_F156 {w : World} {A : Option Addr} {n : Nat} {xs : List S156} {ok : Nat → Prop} (h : Kd.F k156 w ok A n xs) (i : Int) (h0 : 0 ≤ i) (h1 : i < n) : ∃ ad A1 c1, A = some ad ∧ w.cell? (ad.add (i.toNat * 2)) = some (.string (rd_T156 xs i).f0) ∧ w.cell? ⟨(ad.add (i.toNat * 2)).block, (ad.add (i.toNat * 2)).off + 1, none⟩ = some (.slice A1 (rd_T156 xs i).f1.length c1) ∧ (rd_T156 xs i).f1.length ≤ c1 ∧ Kd.F kw w ok A1 (rd_T156 xs i).f1.length (rd_T156 xs i).f1 := by
  obtain ⟨ad, c, e, _, hK, hc0, _⟩ := Kd.F_get h z156 i h0 h1
  have hc : ∀ j u, c[j]? = some u → w.cell? (ad.add (i.toNat * 2 + j)) = some u := hc0
  obtain ⟨A1, c1, rfl, l1, g1⟩ := k156_openF hK
  exact ⟨ad, A1, c1, e, hc 0 _ rfl, by rw [← add_field _ _ 1 (by omega)]; exact hc 1 _ rfl, l1, g1⟩
structure CalInv (base : Nat) (w wr : World) (v : Value) (l : List S164) : Prop where
  row : Row k164 164 wr (fun k => k < base) v l
  own : ∀ b, v.ownBlock = some b → w.heap.size ≤ b
  below : Below w.heap.size w wr
def CalPost (base : Nat) (w : World) (l : List S156) (e : Ending) (w' : World) : Prop :=
  ∃ A c, e = .returned (.slice A l.length c) ∧ CalInv base w w' (.slice A l.length c) (l.map cvC)
theorem Cal_step {base : Nat} {w wr w3 : World} {A A2 : Option Addr} {c c2 : Nat} {l : List S164} {X : S164} {rows : List (List Value)} {v1 : Value} {W2 : World} (hF : CalInv base w wr (.slice A l.length c) l) (hbase : base ≤ w.heap.size) (hrl : rows.length = l.length)
    (hf : ∀ (j : Nat) (x : S164) (cs : List Value), l[j]? = some x → rows[j]? = some cs → Kd.FK k164 wr (fun k => k < base) x cs)
    (hb : Below wr.heap.size wr W2) (hr : Kd.F kw wr (fun k => k < base) A2 X.f1.length X.f1) (hlc : X.f1.length ≤ c2)
    (h1 : Loose w3 164 2 v1 (l.length + 1) (rows.flatten ++ [.string X.f0, .slice A2 X.f1.length c2])) (h2 : W2.grownBy w3 (Value.slice A l.length c).ownBlock)
    (h3 : v1.ownBlock = (Value.slice A l.length c).ownBlock ∨ ∃ b, v1.ownBlock = some b ∧ W2.heap.size ≤ b) :
    CalInv base w w3 v1 (l ++ [X]) := by
  have hs0 := hF.below.size
  have hs1 := hb.size
  have hs3 := h2.size
  have hown : ∀ b, v1.ownBlock = some b → w.heap.size ≤ b := by
    intro b hb
    rcases h3 with e | ⟨b', e, hle⟩
    · exact hF.own b (e.symm.trans hb)
    · rw [e] at hb
      injection hb with hb
      omega
  have hR := Row.appended (d := k164) (e := 164) (xs := l) (ys := [X]) (ok := fun k => k < base) (W := W2) (w1 := w3) (v := .slice A l.length c) (rows := rows) (news := [[.string X.f0, .slice A2 X.f1.length c2]]) hrl
    (fun j x c hx hc => Kd.FK_step (hf j x c hx hc) fun k _ hlt => hb.block k hlt) rfl
    (fun j x cc hx hc => by
      cases j with
      | succ j => simp at hx
      | zero =>
        simp only [List.getElem?_cons_zero, Option.some.injEq] at hx hc
        subst hx hc
        exact k164_mkF W2 _ _ hlc (Kd.F_step hr fun k _ hlt => hb.block k hlt))
    h1 h2 (fun k hk e => by have := hF.own k e.symm; omega)
  exact ⟨hR, hown, ((hF.below.trans (hb.mono (by omega))).grown h2 (by omega) fun k hk => hF.own k hk)⟩
set_option maxRecDepth 100000 in
set_option maxHeartbeats 8000000 in
theorem Cal_calls (base : Nat) (w : World) (A : Option Addr) (c : Nat) (l : List S156) (hbase : base ≤ w.heap.size) (hl : l.length ≤ 1500000000000) (ha : Kd.F k156 w (fun k => k < base) A l.length l) :
    Calls Try.prog 28 #[.slice A l.length c] w (CalPost base w l) := by
  have hu := Try.underlying156
  have hu2 := Try.underlying80
  have hu3 := Try.underlying72
  have HA := Aside0.mk ha
  have HN := Aside0.mk hl
  have HBS := Aside0.mk hbase
  have AF : Aside0 (CalInv base w w (.slice none 0 0) []) := ⟨⟨Row.nil _ _ _ _, (fun b hb => by cases hb), Below.refl _ _⟩⟩
  clear hl ha hbase
  go_enter Try.func28, Try.ntmps28
  go_wp2
  go_loopg [3, 8] l.length (fun d v3 v8 w' => ∃ (i : Nat), v8 = .int .i64 (i : Int) ∧ Aside0 (i + d = l.length) ∧ Aside0 (CalInv base w w' v3 ((l.map cvC).take i)))
  case atStart => exact ⟨0, rfl, ⟨by omega⟩, ⟨by rw [List.take_zero]; exact AF.out⟩⟩
  case round =>
    obtain ⟨i, rfl, HD, HF⟩ := hrel
    clear AF
    have hd := HD.out
    have hlen := HN.out
    cases gk with
    | zero =>
      have e1 : decide (i < l.length) = false := decide_eq_false (by omega)
      have hi : i = l.length := by omega
      subst hi
      have hF := HF.out
      rw [show (l.map cvC).take l.length = l.map cvC from List.take_of_length_le (by simp)] at hF
      have HF2 := Aside0.mk hF
      obtain ⟨A, c, rfl⟩ := hF.row.one
      clear hd hlen hF HF
      go_wp2
      go_ret
      have hf := HF2.out
      rw [List.length_map] at hf
      exact ⟨A, c, by rw [List.length_map]; rfl, hf⟩
    | succ d =>
      have hi : i < l.length := by omega
      have e1 : decide (i < l.length) = true := decide_eq_true hi
      have hiI : (i : Int) ≤ 140737488351232 := by omega
      have hw1 : wrap64 ((i : Int) + 1) = (i : Int) + 1 := by unfold wrap64; omega
      have hF := HF.out
      have ha1 : Kd.F k156 wr (fun k => k < base) A l.length l := Kd.F_step HA.out fun k _ hlt => hF.below.block k hlt
      obtain ⟨ad, A1, c1, eA, x0, x1, m1, q1⟩ := at_F156 ha1 (i : Int) (by omega) (by omega)
      subst eA
      have htk : (l.map cvC).take (i + 1) = (l.map cvC).take i ++ [cvC (rd_T156 l (i : Int))] := by
        rw [List.take_succ_eq_append_getElem (by simpa using hi), show rd_T156 l (i : Int) = l[i] from getD_at hi, List.getElem_map]
      obtain ⟨X, hX⟩ : ∃ X, X = rd_T156 l (i : Int) := ⟨_, rfl⟩
      rw [← hX] at x0 x1 m1 q1 htk
      clear hX
      have HTK := Aside0.mk htk
      simp only [Int.toNat_natCast] at x0 x1
      have hcl : ((l.map cvC).take i).length ≤ 1500000000000 := by rw [List.length_take]; omega
      obtain ⟨L, hL0⟩ : ∃ L, L = (l.map cvC).take i := ⟨_, rfl⟩
      rw [← hL0] at hF hcl HTK
      have HL0 := Aside0.mk hL0
      obtain ⟨A, c, rfl⟩ := hF.row.one
      obtain ⟨rows, hrl, hL, hf⟩ := hF.row
      have HFF := Aside0.mk hF
      have HCL := Aside0.mk hcl
      have HR := Aside0.mk hL
      have HRL := Aside0.mk hrl
      have HRF := Aside0.mk hf
      have HQ := Aside0.mk q1
      have HM := Aside0.mk m1
      have HB := Aside0.mk ((below_alloc (Below.refl wr.heap.size wr) (.cells #[.string X.f0, .slice A1 X.f1.length c1] 156)).alloc (by rw [World.size_alloc]; omega) (.cells #[.string X.f0, .slice A1 X.f1.length c1] 164))
      have HS : Aside0 (RawSrc ((wr.alloc (.cells #[.string X.f0, .slice A1 X.f1.length c1] 156)).alloc (.cells #[.string X.f0, .slice A1 X.f1.length c1] 164)) 2 (some ⟨wr.heap.size + 1, 0, none⟩) 1 [.string X.f0, .slice A1 X.f1.length c1]) := Aside0.mk (by
        have := lit_src2 (wr.alloc (.cells #[.string X.f0, .slice A1 X.f1.length c1] 156)) 164 2 (.string X.f0) (.slice A1 X.f1.length c1) rfl rfl rfl
        rw [World.size_alloc] at this
        exact this)
      clear hF ha1 q1 htk hrl hL hf hcl hd hlen m1 hL0 HF
      go_wp2_with (first
        | (at_builtin
           refine loose_append rfl (.tmp 12) (.tmp 14) 72 164 (.agg #[.string ⟨#[]⟩, .slice none 0 0]) 2 40 rfl Try.underlying72 info164 rfl (by decide) (by decide) (.slice A L.length c) L.length rows.flatten (some ⟨wr.heap.size + 1, 0, none⟩) 1 1 [.string X.f0, .slice A1 X.f1.length c1] (by simp [Act.eval, Act.put]) (by simp [Act.eval, Act.put]) ?cO ?cR ?cL ?_
           case cO => exact (HR.out.move fun k hk => HB.out.block k (HR.out.lt k hk))
           case cR => exact HS.out
           case cL => have := HCL.out; omega
           intro v1 w3 h1 h2 h3
           have G1 := Aside0.mk h1
           have G2 := Aside0.mk h2
           have G3 := Aside0.mk h3
           clear h1 h2 h3)
        | fail)
      go_roundg d
      case measure => omega
      case rel =>
        refine ⟨i + 1, by push_cast; rfl, ⟨by have := HD.out; omega⟩, ⟨?_⟩⟩
        have fin := Cal_step (X := cvC X) HFF.out HBS.out HRL.out HRF.out HB.out HQ.out HM.out G1.out G2.out G3.out
        rw [← HTK.out] at fin
        exact fin
end Go.Proofs.Ytkpjdkmggbelfaa.Host
