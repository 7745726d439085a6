/- The calls that a queue keeps: copies in rows of their own. -/
import Derived.Test.YtkpjdkmggbelfaaHostLeft
namespace Go.Proofs.Ytkpjdkmggbelfaa.Host
open Go.RowKit Go.Proofs.YtkpjdkmggbelfaaW.PrintWords Go.Proofs.YtkpjdkmggbelfaaW.PrintLast Go.Proofs.YtkpjdkmggbelfaaW.PrintMore Go.Proofs.Ytkpjdkmggbelfaa.Mem Go.Proofs.Ytkpjdkmggbelfaa.PHostPlays
set_option linter.unusedVariables false
set_option linter.unusedSimpArgs false
structure CallInv (w wr : World) (v : Value) (l : List S156) : Prop where
  row : Row k156o 156 wr (fun k => w.heap.size ≤ k ∧ k < wr.heap.size ∧ v.ownBlock ≠ some k) v l
  own : ∀ b, v.ownBlock = some b → w.heap.size ≤ b
  below : Below w.heap.size w wr
def CallsPost (w : World) (cs : List S156) (e : Ending) (w' : World) : Prop :=
  ∃ A c, e = .returned (.slice A cs.length c) ∧ Row k156o 156 w' (fun k => w.heap.size ≤ k ∧ k < w'.heap.size) (.slice A cs.length c) cs ∧ (∀ b, (Value.slice A cs.length c).ownBlock = some b → w.heap.size ≤ b) ∧ Below w.heap.size w w'
theorem call_step {w wr w2 w3 : World} {A A2 : Option Addr} {c c2 : Nat} {l : List S156} {X : S156} {rows : List (List Value)} {v1 : Value} (hF : CallInv w wr (.slice A l.length c) l) (hrl : rows.length = l.length)
    (hf : ∀ (j : Nat) (x : S156) (cs : List Value), l[j]? = some x → rows[j]? = some cs → Kd.FK k156o wr (fun k => w.heap.size ≤ k ∧ k < wr.heap.size ∧ (Value.slice A l.length c).ownBlock ≠ some k) x cs)
    (hb : Below wr.heap.size wr w2) (hr : Row kw 113 w2 (fun _ => False) (.slice A2 X.f1.length c2) X.f1) (hn : ∀ b, (Value.slice A2 X.f1.length c2).ownBlock = some b → wr.heap.size ≤ b)
    (h1 : Loose w3 156 2 v1 (l.length + 1) (rows.flatten ++ [.string X.f0, .slice A2 X.f1.length c2])) (h2 : (w2.alloc (.cells #[.string X.f0, .slice A2 X.f1.length c2] 156)).grownBy w3 (Value.slice A l.length c).ownBlock)
    (h3 : v1.ownBlock = (Value.slice A l.length c).ownBlock ∨ ∃ b, v1.ownBlock = some b ∧ (w2.alloc (.cells #[.string X.f0, .slice A2 X.f1.length c2] 156)).heap.size ≤ b) :
    CallInv w w3 v1 (l ++ [X]) := by
  have hB := hb.alloc hb.size (.cells #[.string X.f0, .slice A2 X.f1.length c2] 156)
  generalize hW2 : w2.alloc (.cells #[.string X.f0, .slice A2 X.f1.length c2] 156) = W2 at hB h2 h3
  have hb2 : Below w2.heap.size w2 W2 := by rw [← hW2]; exact below_alloc (Below.refl _ _) _
  have hs0 := hF.below.size
  have hs1 := hb.size
  have hs2 := hB.size
  have hs3 := h2.size
  have hsz2 : W2.heap.size = w2.heap.size + 1 := by rw [← hW2]; exact World.size_alloc _ _
  have hown : ∀ b, v1.ownBlock = some b → w.heap.size ≤ b := by
    intro b hb
    rcases h3 with e | ⟨b', e, hle⟩
    · exact hF.own b (e.symm.trans hb)
    · rw [e] at hb
      injection hb with hb
      omega
  have hR := Row.appended (d := k156o) (e := 156) (xs := l) (ys := [X]) (ok := fun k => w.heap.size ≤ k ∧ k < W2.heap.size ∧ (Value.slice A l.length c).ownBlock ≠ some k) (W := W2) (w1 := w3) (v := .slice A l.length c) (rows := rows) (news := [[.string X.f0, .slice A2 X.f1.length c2]]) hrl
    (fun j x c hx hc => Kd.FK_mono (Kd.FK_step (hf j x c hx hc) fun k _ hlt => hB.block k hlt) fun k hk => ⟨hk.1, by omega, hk.2.2⟩) rfl
    (fun j x cc hx hc => by
      cases j with
      | succ j => simp at hx
      | zero =>
        simp only [List.getElem?_cons_zero, Option.some.injEq] at hx hc
        subst hx hc
        refine k156o_mkF W2 _ _ (hr.move (fun k hk => hk.elim) fun k hk => hb2.block k (hr.lt k hk)) fun k hk => ?_
        have a := hn k hk
        have b := hr.lt k hk
        exact ⟨by omega, by omega, fun e => by have := hF.row.lt k e; omega⟩)
    h1 h2 (fun k hk e => hk.2.2 e.symm)
  refine ⟨?_, hown, ((hF.below.trans (hB.mono (by omega))).grown h2 (by omega) fun k hk => by have := hF.own k hk; omega)⟩
  refine hR.mono fun k hk => ⟨hk.1, by omega, fun e => ?_⟩
  rcases h3 with e2 | ⟨b', e2, hle⟩
  · exact hk.2.2 (e2.symm.trans e)
  · rw [e2] at e
    injection e with e
    omega
set_option maxRecDepth 100000 in
set_option maxHeartbeats 8000000 in
theorem Calls_calls (base : Nat) (w : World) (g : Nat) (tag : Nat → Nat) (an : List S109) (gs : List Bool) (cs : List S156) (va vg vc : Value) (h : Qs base w g tag an gs cs va vg vc) (hn : cs.length ≤ 1500000000000) (hx : ∀ x ∈ cs, x.f1.length ≤ 17592186043904) :
    Calls Try.prog 32 #[.pointer (some ⟨g, 0, none⟩)] w (CallsPost w cs) := by
  obtain ⟨Aa, ca, rfl⟩ := h.rc.one
  have hu := Try.underlying156
  have hu2 := Try.underlying80
  have IS := Aside0.mk (is_box _ g _ _ _ true h.box)
  have u0 : w.cell? ⟨g, 2, none⟩ = some (.slice Aa cs.length ca) := (blk_cell h.box 2).trans rfl
  have HA := Aside0.mk (Kd.F_now h.rc.F.2.2)
  have HX := Aside0.mk hx
  have HN := Aside0.mk hn
  have AF : Aside0 (CallInv w w (.slice none 0 0) []) := ⟨⟨Row.nil _ _ _ _, (fun b hb => by cases hb), Below.refl _ _⟩⟩
  clear h hn hx
  go_enter Try.func32, Try.ntmps32
  go_wp2_with (first | (go_at_call 57; (with_reducible refine IS.out.mono ?_); rintro e w1 ⟨rfl, rfl⟩) | fail)
  go_loopg [3, 14] cs.length (fun d v3 v14 w' => ∃ (i : Nat), v14 = .int .i64 (i : Int) ∧ Aside0 (i + d = cs.length) ∧ Aside0 (CallInv w w' v3 (cs.take i)))
  case atStart => exact ⟨0, rfl, ⟨by omega⟩, ⟨by rw [List.take_zero]; exact AF.out⟩⟩
  case round =>
    obtain ⟨i, rfl, HD, HF⟩ := hrel
    clear AF
    have hd := HD.out
    have hlen := HN.out
    cases gk with
    | zero =>
      have e1 : decide (i < cs.length) = false := decide_eq_false (by omega)
      have hi : i = cs.length := by omega
      subst hi
      have hF := HF.out
      rw [List.take_length] at hF
      have HF2 := Aside0.mk hF
      obtain ⟨A, c, rfl⟩ := hF.row.one
      clear hd hlen hF HF
      go_wp2
      go_ret
      exact ⟨A, c, rfl, HF2.out.row.mono fun k hk => ⟨hk.1, hk.2.1⟩, HF2.out.own, HF2.out.below⟩
    | succ d =>
      have hi : i < cs.length := by omega
      have e1 : decide (i < cs.length) = true := decide_eq_true hi
      have hiI : (i : Int) ≤ 140737488351232 := by omega
      have hw1 : wrap64 ((i : Int) + 1) = (i : Int) + 1 := by unfold wrap64; omega
      have hF := HF.out
      have ha1 : Kd.C k156 wr Aa cs.length cs := Kd.C_below HA.out hF.below
      obtain ⟨ad, A1, c1, eA, x0, x1, m1, q1⟩ := at_T156 ha1 (i : Int) (by omega) (by omega)
      subst eA
      have hm := HX.out (rd_T156 cs (i : Int)) (by rw [show rd_T156 cs (i : Int) = cs[i] from getD_at hi]; exact List.getElem_mem hi)
      have htk : cs.take (i + 1) = cs.take i ++ [rd_T156 cs (i : Int)] := by
        rw [List.take_succ_eq_append_getElem hi, show rd_T156 cs (i : Int) = cs[i] from getD_at hi]
      obtain ⟨X, hX⟩ : ∃ X, X = rd_T156 cs (i : Int) := ⟨_, rfl⟩
      rw [← hX] at x0 x1 m1 q1 hm htk
      clear hX
      have HTK := Aside0.mk htk
      simp only [Int.toNat_natCast] at x0 x1
      obtain ⟨A, c, rfl⟩ := hF.row.one
      obtain ⟨rows, hrl, hL, hf⟩ := hF.row
      have hcl : (cs.take i).length ≤ 1500000000000 := by rw [List.length_take]; omega
      have HCL := Aside0.mk hcl
      have HR := Aside0.mk hL
      have HRL := Aside0.mk hrl
      have HRF := Aside0.mk hf
      have HB0 := Aside0.mk (below_alloc (Below.refl wr.heap.size wr) (.cells #[.string X.f0, .slice A1 X.f1.length c1] 156))
      have OC := Aside0.mk (ownCall_own (wr.alloc (.cells #[.string X.f0, .slice A1 X.f1.length c1] 156)) X A1 c1 (Kd.C_below q1 HB0.out) hm)
      clear hF ha1 q1 hm htk hrl hL hf hcl hd hlen m1
      go_wp2_with (first
        | (at_builtin
           refine loose_append rfl (.tmp 18) (.tmp 21) 80 156 (.agg #[.string ⟨#[]⟩, .slice none 0 0]) 2 40 rfl Try.underlying80 info156 rfl (by decide) (by decide) (.slice A (cs.take i).length c) (cs.take i).length rows.flatten (some ⟨w2.heap.size, 0, none⟩) 1 1 [.string X.f0, .slice A2 X.f1.length c2] (by simp [Act.eval, Act.put]) (by simp [Act.eval, Act.put]) ?cO ?cR ?cL ?_
           case cO => exact (HR.out.move fun k hk => (HB.out.alloc HB.out.size _).block k (HR.out.lt k hk))
           case cR => exact lit_src2 w2 156 2 _ _ rfl rfl rfl
           case cL => have := HCL.out; omega
           intro v1 w3 h1 h2 h3
           obtain ⟨x2, y2, rfl⟩ : ∃ x2 y2, v1 = .slice x2 ((cs.take i).length + 1) y2 := by
             rcases h1.2 with ⟨_, h0⟩ | ⟨gg, cap, cur, rfl, _⟩
             · omega
             · exact ⟨_, _, rfl⟩
           have G1 := Aside0.mk h1
           have G2 := Aside0.mk h2
           have G3 := Aside0.mk h3
           clear h1 h2 h3)
        | (go_at_call 67
           (with_reducible refine OC.out.mono ?_)
           rintro e1 w2 ⟨A2, c2, rfl, hr2, hn2, hb⟩
           have F2 := Aside0.mk hr2
           have N2 := Aside0.mk hn2
           have HB := Aside0.mk (below_then HB0.out HB0.out.size hb)
           clear hb hr2 hn2)
        | fail)
      go_roundg d
      case measure => omega
      case rel =>
        refine ⟨i + 1, by push_cast; rfl, ⟨by have := HD.out; omega⟩, ⟨?_⟩⟩
        have fin := call_step HF.out HRL.out HRF.out HB.out F2.out (fun b hb => by have h5 := N2.out b hb; rw [World.size_alloc] at h5; omega) G1.out G2.out G3.out
        rw [← HTK.out] at fin
        have hnn : (cs.take i).length + 1 = min i cs.length + 1 := by rw [List.length_take]
        rw [hnn] at fin
        exact fin
end Go.Proofs.Ytkpjdkmggbelfaa.Host
