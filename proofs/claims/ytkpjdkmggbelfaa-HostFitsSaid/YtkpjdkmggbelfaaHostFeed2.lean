/- The walks of a queue's rows: truths that are fed; is, has, drop. -/
import Derived.Test.YtkpjdkmggbelfaaHostFeed
namespace Go.Proofs.Ytkpjdkmggbelfaa.Host
open Go.RowKit Go.Proofs.YtkpjdkmggbelfaaW.PrintWords Go.Proofs.YtkpjdkmggbelfaaW.PrintLast Go.Proofs.YtkpjdkmggbelfaaW.PrintMore Go.Proofs.Ytkpjdkmggbelfaa.Mem Go.Proofs.Ytkpjdkmggbelfaa.PHostPlays
set_option linter.unusedVariables false
set_option linter.unusedSimpArgs false
theorem same_calls (w : World) (b : Bool) : Calls Try.prog 61 #[.bool b] w fun e w' => e = .returned (.bool b) ∧ w = w' := by
  go_enter Try.func61, Try.ntmps61
  go_wp2
  go_ret
  exact ⟨rfl, rfl⟩
theorem lit_src1 (W : World) (t size : Nat) (a : Value) (ha : a.oneCell' = true) (hs : size = 1) : RawSrc (W.alloc (.cells #[a] t)) size (some ⟨W.heap.size, 0, none⟩) 1 [a] := by
  subst hs
  refine ⟨rfl, (fun u hu => by simp only [List.mem_cons, List.not_mem_nil, or_false] at hu; subst hu; assumption), (fun e => by cases e), fun ad e j u hu => ?_⟩
  injection e with e
  subst e
  rw [add_plain, blk_cell (heap_alloc_new W (.cells #[a] t))]
  simpa using hu
set_option maxRecDepth 100000 in
set_option maxHeartbeats 8000000 in
theorem feed_truths (base : Nat) (w : World) (g : Nat) (tag : Nat → Nat) (an : List S109) (gs : List Bool) (cs : List S156) (va vg vc : Value) (h : Qs base w g tag an gs cs va vg vc) (A : Option Addr) (c : Nat) (l : List Bool) (hn : gs.length + l.length ≤ 140737488351232) (hl : l.length ≤ 140737488351232) (ha : Kd.F Kd.bool w (fun k => k < w.heap.size ∧ tag k = 0) A l.length l) :
    Calls Try.prog 60 #[.pointer (some ⟨g, 1, none⟩), .func (.func 61) #[] #[], .slice A l.length c] w (QVoid base w g tag an (gs ++ l) cs) := by
  have hu2 := Try.underlying71
  have HA := Aside0.mk ha
  have HN := Aside0.mk hn
  have HL := Aside0.mk hl
  have AF := Aside0.mk (QsAfter.same h (Below.refl _ _))
  clear h hn ha hl
  go_enter Try.func60, Try.ntmps60
  go_wp2
  go_loopg [10] l.length (fun d v10 w' => ∃ i : Nat, v10 = .int .i64 (i : Int) ∧ Aside0 (i + d = l.length) ∧ Aside0 (QsAfter base w g tag an (gs ++ l.take i) cs w'))
  case atStart => exact ⟨0, rfl, ⟨by omega⟩, ⟨by rw [List.take_zero, List.append_nil]; exact AF.out⟩⟩
  case round =>
    obtain ⟨i, rfl, HD, HF⟩ := hrel
    clear AF
    have hd := HD.out
    have hlen := HL.out
    cases gk with
    | zero =>
      have e1 : decide (i < l.length) = false := decide_eq_false (by omega)
      have hi : i = l.length := by omega
      subst hi
      have HF2 := HF.out
      rw [List.take_length] at HF2
      have HF3 := Aside0.mk HF2
      clear hd hlen HF2 HF
      go_wp2
      go_end0
      exact ⟨rfl, HF3.out⟩
    | succ d =>
      have hi : i < l.length := by omega
      have e1 : decide (i < l.length) = true := decide_eq_true hi
      have hiI : (i : Int) ≤ 140737488351232 := by omega
      have hw1 : wrap64 ((i : Int) + 1) = (i : Int) + 1 := by unfold wrap64; omega
      obtain ⟨tag1, va1, vg1, vc1, h1, hk1, hb1, ht1, h31⟩ := HF.out
      have ha1 : Kd.F Kd.bool wr (fun k => k < w.heap.size ∧ tag k = 0) A l.length l := Kd.F_step HA.out fun k hk _ => hk1.2 k hk.1 (fun hn => hn hk.2)
      obtain ⟨ad, eA, x0⟩ := ReadsOf.at_ (Kd.reads_of_C (enc := Value.bool) (d := false) (h1 := fun _ => rfl) (Kd.F_now ha1)) (i : Int) (by omega) (by omega)
      subst eA
      rw [Int.toNat_natCast] at x0
      have htk : l.take (i + 1) = l.take i ++ [rdOf false l (i : Int)] := by
        rw [List.take_succ_eq_append_getElem hi, show rdOf false l (i : Int) = l[i] from getD_at hi]
      obtain ⟨X, hX⟩ : ∃ X, X = rdOf false l (i : Int) := ⟨_, rfl⟩
      rw [← hX] at x0 htk
      clear hX
      have HTK := Aside0.mk htk
      obtain ⟨rows, hrl, hL, hf⟩ := h1.rg
      have hone : ∃ Av cv, vg1 = .slice Av (gs ++ l.take i).length cv := h1.rg.one
      obtain ⟨Av, cv, rfl⟩ := hone
      have hcl : (gs ++ l.take i).length ≤ 140737488351232 := by rw [List.length_append, List.length_take]; have := HN.out; omega
      have HCL := Aside0.mk hcl
      have H1 := Aside0.mk h1
      have HR := Aside0.mk hL
      have HRL := Aside0.mk hrl
      have HRF := Aside0.mk hf
      have HB := Aside0.mk (below_drew (Below.refl wr.heap.size wr))
      have hgl := (h1.tagged g (by rw [h1.gtag]; decide)).2
      have cw : ∀ W : World, Below wr.heap.size wr W → W.cell? ⟨g, 1, none⟩ = some (.slice Av (gs ++ l.take i).length cv) ∧ W.frozen? ⟨g, 1, none⟩ = false := fun W hW => by
        have hbx := (hW.block g hgl).trans h1.box
        exact ⟨(blk_cell hbx 1).trans rfl, blk_frozen hbx 1⟩
      obtain ⟨a0, b0⟩ := cw _ HB.out
      obtain ⟨a1, b1⟩ := cw _ (Below.refl wr.heap.size wr)
      have ax : ∀ o, (wr.drew.alloc o).cell? ⟨g, 1, none⟩ = some (.slice Av (gs ++ l.take i).length cv) := fun o => (cw _ (HB.out.alloc HB.out.size o)).1
      have ax2 : ∀ o, (wr.alloc o).cell? ⟨g, 1, none⟩ = some (.slice Av (gs ++ l.take i).length cv) := fun o => (cw _ (below_alloc (Below.refl _ _) o)).1
      have TH := Aside0.mk (fun {W2 : World} (h2 : QsAfter base wr g tag1 an (gs ++ l.take (i + 1)) cs W2) => show QsAfter base w g tag an (gs ++ l.take (i + 1)) cs W2 from QsAfter.then_ hk1 hb1 ht1 h31 h2)
      clear h1 hk1 hb1 ht1 h31 ha1 htk hrl hL hf hcl cw hgl hd hlen
      have T1 : Aside0 (RawSrc (wr.drew.alloc (.cells #[.bool X] 4)) 1 (some ⟨wr.heap.size, 0, none⟩) 1 [.bool X]) := Aside0.mk (lit_src1 wr.drew 4 1 _ rfl rfl)
      have T2 : Aside0 (Loose (wr.drew.alloc (.cells #[.bool X] 4)) 4 1 (.slice Av (gs ++ l.take i).length cv) (gs ++ l.take i).length rows.flatten) := Aside0.mk (HR.out.move fun k hk => (HB.out.alloc HB.out.size _).block k (HR.out.lt k hk))
      have T3 : Aside0 (∀ w3 : World, (wr.drew.alloc (.cells #[.bool X] 4)).grownBy w3 (Value.slice Av (gs ++ l.take i).length cv).ownBlock → w3.heap[g]? = some (.cells #[va1, .slice Av (gs ++ l.take i).length cv, vc1, .bool true] 103 (0, 0))) := Aside0.mk fun w3 h2 => ((h2.block g (by rw [World.size_alloc]; have := HB.out.size; have := (H1.out.tagged g (by rw [H1.out.gtag]; decide)).2; omega) fun e => by have := H1.out.gt_ g e.symm; have := H1.out.gtag; omega).trans ((HB.out.alloc HB.out.size _).block g (H1.out.tagged g (by rw [H1.out.gtag]; decide)).2)).trans H1.out.box
      go_wp2
      go_region_law (first
        | (refine loose_append_step rfl (.tmp 18) (.tmp 22) 71 4 (.bool false) 1 1 rfl Try.underlying71 info4 rfl (by decide) (by decide) (.slice Av (gs ++ l.take i).length cv) (gs ++ l.take i).length rows.flatten (some ⟨wr.heap.size, 0, none⟩) 1 1 [.bool X] (by simp [Act.eval, Act.put]) (by simp [Act.eval, Act.put]) ?cO ?cR ?cL ?_
           case cO => exact T2.out
           case cR => exact T1.out
           case cL => have := HCL.out; omega
           intro v1 w3 h1 h2 h3
           obtain ⟨x2, y2, rfl⟩ : ∃ x2 y2, v1 = .slice x2 ((gs ++ l.take i).length + 1) y2 := by
             rcases h1.2 with ⟨_, h0⟩ | ⟨gg, cap, cur, rfl, _⟩
             · omega
             · exact ⟨_, _, rfl⟩
           have hbx := T3.out w3 h2
           have a0 := (blk_cell hbx 1).trans rfl
           have b0 := blk_frozen hbx 1
           have G1 := Aside0.mk h1
           have G2 := Aside0.mk h2
           have G3 := Aside0.mk h3
           clear h1 h2 h3 hbx)
        | (go_simp
           go_wp2_with (first
             | (go_at_call 61
                (with_reducible refine (same_calls _ _).mono ?_)
                rintro e1 w2 ⟨rfl, rfl⟩)
             | fail)))
      all_goals
        go_wp2
        go_roundg d
        case measure => omega
        case rel =>
          have HBW := HB.out.alloc HB.out.size (.cells #[.bool X] 4)
          have hR := Row.appended (d := Kd.bool) (e := 4) (xs := gs ++ l.take i) (ys := [X]) (ok := fun k => k < base ∨ tag1 k = 3 ∨ wr.heap.size ≤ k ∧ k < (wr.drew.alloc (.cells #[.bool X] 4)).heap.size) (W := wr.drew.alloc (.cells #[.bool X] 4)) (w1 := w3) (v := .slice Av (gs ++ l.take i).length cv) (rows := rows) (news := [[.bool X]]) HRL.out
            (fun j x c hx hc => Kd.FK_mono (Kd.FK_step (HRF.out j x c hx hc) fun k _ hlt => HBW.block k hlt) fun k hk => hk.imp id .inl) rfl
            (fun j x c hx hc => by
              cases j with
              | succ j => simp at hx
              | zero =>
                simp only [List.getElem?_cons_zero, Option.some.injEq] at hx hc
                subst hx hc
                exact fun W' _ => rfl)
            G1.out G2.out (fun k hk e => by
              have h2 := H1.out.gt_ k e.symm
              have h3 := H1.out.tagged k (by omega)
              rcases hk with hk | hk | hk <;> omega)
          rw [List.append_assoc, ← HTK.out] at hR
          have fin := H1.out.set_g HBW hR G2.out (fun b hb => by
            rcases G3.out with e | ⟨b', e, hle⟩
            · exact .inl (e.symm.trans hb)
            · rw [e] at hb
              injection hb with hb
              subst hb
              exact .inr hle)
          refine ⟨i + 1, by push_cast; rfl, ⟨by have := HD.out; omega⟩, ⟨TH.out ?_⟩⟩
          have hnn : (gs ++ l.take i).length + 1 = gs.length + min i l.length + 1 := by rw [List.length_append, List.length_take]
          rw [hnn] at fin
          exact fin
end Go.Proofs.Ytkpjdkmggbelfaa.Host
