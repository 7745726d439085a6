/- The walks of a queue's rows: what is fed. -/
import Derived.Test.YtkpjdkmggbelfaaHostQ
import Derived.Outline
import Derived.Deep.RegionLaw
namespace Go.Proofs.Ytkpjdkmggbelfaa.Host
open Go.RowKit Go.Proofs.YtkpjdkmggbelfaaW.PrintWords Go.Proofs.YtkpjdkmggbelfaaW.PrintLast Go.Proofs.YtkpjdkmggbelfaaW.PrintMore Go.Proofs.Ytkpjdkmggbelfaa.Mem Go.Proofs.Ytkpjdkmggbelfaa.PHostPlays
set_option linter.unusedVariables false
set_option linter.unusedSimpArgs false
theorem lit_src2 (W : World) (t size : Nat) (a b : Value) (ha : a.oneCell' = true) (hb : b.oneCell' = true) (hs : size = 2) : RawSrc (W.alloc (.cells #[a, b] t)) size (some ⟨W.heap.size, 0, none⟩) 1 [a, b] := by
  subst hs
  refine ⟨rfl, (fun u hu => by simp only [List.mem_cons, List.not_mem_nil, or_false] at hu; rcases hu with rfl | rfl <;> assumption), (fun e => by cases e), fun ad e j u hu => ?_⟩
  injection e with e
  subst e
  rw [add_plain, blk_cell (heap_alloc_new W (.cells #[a, b] t))]
  simpa using hu
def QVoid (base : Nat) (w : World) (g : Nat) (tag : Nat → Nat) (an : List S109) (gs : List Bool) (cs : List S156) (e : Ending) (w' : World) : Prop := e = .returned (.tuple #[]) ∧ QsAfter base w g tag an gs cs w'
theorem getD_at {α : Type} {l : List α} {z : α} {i : Nat} (h : i < l.length) : l.getD ((i : Int).toNat) z = l[i] := by
  rw [Int.toNat_natCast, List.getD_eq_getElem?_getD, List.getElem?_eq_getElem h]
  rfl
set_option maxRecDepth 100000 in
set_option maxHeartbeats 8000000 in
theorem feed_answers (base : Nat) (w : World) (g : Nat) (tag : Nat → Nat) (an : List S109) (gs : List Bool) (cs : List S156) (va vg vc : Value) (h : Qs base w g tag an gs cs va vg vc) (A : Option Addr) (c : Nat) (l : List S109) (hn : an.length + l.length ≤ 4398046510976) (hl : l.length ≤ 4398046510976) (ha : Kd.F k109 w (fun k => k < w.heap.size ∧ tag k = 0) A l.length l) (hx : ∀ x ∈ l, x.f1.length ≤ 17592186043904) :
    Calls Try.prog 58 #[.pointer (some ⟨g, 0, none⟩), .func (.func 59) #[] #[], .slice A l.length c] w (QVoid base w g tag (an ++ l) gs cs) := by
  have hu := Try.underlying109
  have hu2 := Try.underlying75
  have HA := Aside0.mk ha
  have HX := Aside0.mk hx
  have HN := Aside0.mk hn
  have HL := Aside0.mk hl
  have AF := Aside0.mk (QsAfter.same h (Below.refl _ _))
  clear h hn ha hl hx
  go_enter Try.func58, Try.ntmps58
  go_wp2
  go_loopg [10] l.length (fun d v10 w' => ∃ i : Nat, v10 = .int .i64 (i : Int) ∧ Aside0 (i + d = l.length) ∧ Aside0 (QsAfter base w g tag (an ++ l.take i) gs cs w'))
  case atStart => exact ⟨0, rfl, ⟨by omega⟩, ⟨by rw [List.take_zero, List.append_nil]; exact AF.out⟩⟩
  case round =>
    obtain ⟨i, rfl, HD, HF⟩ := hrel
    clear AF
    have hd := HD.out
    have hlen := HL.out
    cases gk with
    | zero =>
      have e1 : decide (i < l.length) = false := decide_eq_false (by omega)
      have hi : i = l.length := by omega
      subst hi
      have HF2 := HF.out
      rw [List.take_length] at HF2
      have HF3 := Aside0.mk HF2
      clear hd hlen HF2 HF
      go_wp2
      go_end0
      exact ⟨rfl, HF3.out⟩
    | succ d =>
      have hi : i < l.length := by omega
      have e1 : decide (i < l.length) = true := decide_eq_true hi
      have hiI : (i : Int) ≤ 140737488351232 := by omega
      have hw1 : wrap64 ((i : Int) + 1) = (i : Int) + 1 := by unfold wrap64; omega
      obtain ⟨tag1, va1, vg1, vc1, h1, hk1, hb1, ht1, h31⟩ := HF.out
      have ha1 : Kd.F k109 wr (fun k => k < w.heap.size ∧ tag k = 0) A l.length l := Kd.F_step HA.out fun k hk _ => hk1.2 k hk.1 (fun hn => hn hk.2)
      obtain ⟨ad, A1, c1, eA, x0, x1, m1, q1⟩ := at_T109 (Kd.F_now ha1) (i : Int) (by omega) (by omega)
      subst eA
      have hm := HX.out (rd_T109 l (i : Int)) (by rw [show rd_T109 l (i : Int) = l[i] from getD_at hi]; exact List.getElem_mem hi)
      have htk : l.take (i + 1) = l.take i ++ [rd_T109 l (i : Int)] := by
        rw [List.take_succ_eq_append_getElem hi, show rd_T109 l (i : Int) = l[i] from getD_at hi]
      obtain ⟨X, hX⟩ : ∃ X, X = rd_T109 l (i : Int) := ⟨_, rfl⟩
      rw [← hX] at x0 x1 m1 q1 hm htk
      clear hX
      have HTK := Aside0.mk htk
      simp only [Int.toNat_natCast] at x0 x1
      obtain ⟨rows, hrl, hL, hf⟩ := h1.ra
      have hone : ∃ Av cv, va1 = .slice Av (an ++ l.take i).length cv := h1.ra.one
      obtain ⟨Av, cv, rfl⟩ := hone
      have hcl : (an ++ l.take i).length ≤ 4398046510976 := by rw [List.length_append, List.length_take]; have := HN.out; omega
      have HCL := Aside0.mk hcl
      have H1 := Aside0.mk h1
      have HR := Aside0.mk hL
      have HRL := Aside0.mk hrl
      have HRF := Aside0.mk hf
      have HB0 := Aside0.mk (below_drew (below_alloc (Below.refl wr.heap.size wr) (.cells #[.bool X.f0, .slice A1 X.f1.length c1] 109)))
      have OC := Aside0.mk (ownAnswer_calls (wr.alloc (.cells #[.bool X.f0, .slice A1 X.f1.length c1] 109)).drew X A1 c1 (Kd.C_below q1 HB0.out) hm)
      have hgl := (h1.tagged g (by rw [h1.gtag]; decide)).2
      have cw : ∀ W : World, Below wr.heap.size wr W → W.cell? ⟨g, 0, none⟩ = some (.slice Av (an ++ l.take i).length cv) ∧ W.frozen? ⟨g, 0, none⟩ = false := fun W hW => by
        have hbx := (hW.block g hgl).trans h1.box
        exact ⟨(blk_cell hbx 0).trans rfl, blk_frozen hbx 0⟩
      have CW := Aside0.mk cw
      obtain ⟨a0, b0⟩ := cw _ HB0.out
      have TH := Aside0.mk (fun {W2 : World} (h2 : QsAfter base wr g tag1 (an ++ l.take (i + 1)) gs cs W2) => show QsAfter base w g tag (an ++ l.take (i + 1)) gs cs W2 from QsAfter.then_ hk1 hb1 ht1 h31 h2)
      clear h1 hk1 hb1 ht1 h31 ha1 q1 hm htk hrl hL hf hcl cw hgl hd hlen m1
      obtain ⟨n1, hn1⟩ : ∃ n1, n1 = (an ++ l.take i).length := ⟨_, rfl⟩
      go_wp2
      go_region_law (first
        | (refine loose_append_step rfl (.tmp 18) (.tmp 22) 75 109 (.agg #[.bool false, .slice none 0 0]) 2 32 rfl Try.underlying75 info109 rfl (by decide) (by decide) (.slice Av (an ++ l.take i).length cv) (an ++ l.take i).length rows.flatten (some ⟨w2.heap.size, 0, none⟩) 1 1 [.bool X.f0, .slice A2 X.f1.length c2] (by simp [Act.eval, Act.put]) (by simp [Act.eval, Act.put]) ?cO ?cR ?cL ?_
           case cO => exact (HR.out.move fun k hk => (HB.out.alloc HB.out.size _).block k (HR.out.lt k hk))
           case cR => exact lit_src2 w2 109 2 _ _ rfl rfl rfl
           case cL => have := HCL.out; omega
           intro v1 w3 h1 h2 h3
           obtain ⟨x2, y2, rfl⟩ : ∃ x2 y2, v1 = .slice x2 ((an ++ l.take i).length + 1) y2 := by
             rcases h1.2 with ⟨_, h0⟩ | ⟨gg, cap, cur, rfl, _⟩
             · omega
             · exact ⟨_, _, rfl⟩
           have hbx : w3.heap[g]? = _ := ((h2.block g (by rw [World.size_alloc]; have := HB.out.size; have := (H1.out.tagged g (by rw [H1.out.gtag]; decide)).2; omega) fun e => by have := H1.out.at_ g e.symm; have := H1.out.gtag; omega).trans ((HB.out.alloc HB.out.size _).block g (H1.out.tagged g (by rw [H1.out.gtag]; decide)).2)).trans H1.out.box
           have a0 := (blk_cell hbx 0).trans rfl
           have b0 := blk_frozen hbx 0
           have G1 := Aside0.mk h1
           have G2 := Aside0.mk h2
           have G3 := Aside0.mk h3
           clear h1 h2 h3 hbx)
        | (go_simp
           go_wp2_with (first
             | (go_at_call 59
                (with_reducible refine OC.out.mono ?_)
                rintro e1 w2 ⟨A2, c2, rfl, hc2, hF2, hb⟩
                have L2 := Aside0.mk hc2
                have F2 := Aside0.mk hF2
                have HB := Aside0.mk (below_then HB0.out HB0.out.size hb)
                have HS2 := Aside0.mk hb.size
                obtain ⟨a0, b0⟩ := CW.out _ HB.out
                have ax : ∀ o, (w2.alloc o).cell? ⟨g, 0, none⟩ = some (.slice Av (an ++ l.take i).length cv) := fun o => (CW.out _ (HB.out.alloc HB.out.size o)).1
                clear hb hc2 hF2)
             | fail)))
      all_goals
        go_wp2
        go_roundg d
        case measure => omega
        case rel =>
          have HBW := HB.out.alloc HB.out.size (.cells #[.bool X.f0, .slice A2 X.f1.length c2] 109)
          have hs2 := HS2.out
          have hdr : ((wr.alloc (.cells #[.bool X.f0, .slice A1 X.f1.length c1] 109)).drew).heap.size = wr.heap.size + 1 := World.size_alloc wr _
          have hR := Row.appended (d := k109) (e := 109) (xs := an ++ l.take i) (ys := [X]) (ok := fun k => k < base ∨ tag1 k = 3 ∨ wr.heap.size ≤ k ∧ k < (w2.alloc (.cells #[.bool X.f0, .slice A2 X.f1.length c2] 109)).heap.size) (W := w2.alloc (.cells #[.bool X.f0, .slice A2 X.f1.length c2] 109)) (w1 := w3) (v := .slice Av (an ++ l.take i).length cv) (rows := rows) (news := [[.bool X.f0, .slice A2 X.f1.length c2]]) HRL.out
            (fun j x c hx hc => Kd.FK_mono (Kd.FK_step (HRF.out j x c hx hc) fun k _ hlt => HBW.block k hlt) fun k hk => hk.imp id .inl) rfl
            (fun j x c hx hc => by
              cases j with
              | succ j => simp at hx
              | zero =>
                simp only [List.getElem?_cons_zero, Option.some.injEq] at hx hc
                subst hx hc
                exact k109_mkF _ _ _ L2.out (Kd.F_mono (Kd.F_alloc F2.out _) fun k hk => .inr (.inr ⟨by rw [hdr] at hk; omega, by rw [World.size_alloc]; omega⟩)))
            G1.out G2.out (fun k hk e => by
              have h2 := H1.out.at_ k e.symm
              have h3 := H1.out.tagged k (by omega)
              rcases hk with hk | hk | hk <;> omega)
          rw [List.append_assoc, ← HTK.out] at hR
          have fin := H1.out.set_a HBW hR G2.out (fun b hb => by
            rcases G3.out with e | ⟨b', e, hle⟩
            · exact .inl (e.symm.trans hb)
            · rw [e] at hb
              injection hb with hb
              exact .inr (by omega))
          refine ⟨i + 1, by push_cast; rfl, ⟨by have := HD.out; omega⟩, ⟨TH.out ?_⟩⟩
          have hnn : (an ++ l.take i).length + 1 = an.length + min i l.length + 1 := by rw [List.length_append, List.length_take]
          rw [hnn] at fin
          exact fin
set_option maxRecDepth 100000 in
set_option maxHeartbeats 8000000 in
theorem feed_calls (base : Nat) (w : World) (g : Nat) (tag : Nat → Nat) (an : List S109) (gs : List Bool) (cs : List S156) (va vg vc : Value) (h : Qs base w g tag an gs cs va vg vc) (hn : cs.length ≤ 1500000000000) (A : Option Addr) (c : Nat) (l : List S156) (hl : l.length ≤ 1500000000000) (ha : Kd.F k156 w (fun k => k < w.heap.size ∧ tag k = 0) A l.length l) (hx : ∀ x ∈ l, x.f1.length ≤ 17592186043904) :
    Calls Try.prog 66 #[.pointer (some ⟨g, 2, none⟩), .func (.func 67) #[] #[], .slice A l.length c] w (QVoid base w g tag an gs (cs ++ l)) := by
  have hu := Try.underlying156
  have hu2 := Try.underlying80
  have HA := Aside0.mk ha
  have HX := Aside0.mk hx
  have HN := Aside0.mk hn
  have HL := Aside0.mk hl
  have AF := Aside0.mk (QsAfter.same h (Below.refl _ _))
  clear h hn ha hl hx
  go_enter Try.func66, Try.ntmps66
  go_wp2
  go_loopg [10] l.length (fun d v10 w' => ∃ i : Nat, v10 = .int .i64 (i : Int) ∧ Aside0 (i + d = l.length) ∧ Aside0 (QsAfter base w g tag an gs (cs ++ l.take i) w'))
  case atStart => exact ⟨0, rfl, ⟨by omega⟩, ⟨by rw [List.take_zero, List.append_nil]; exact AF.out⟩⟩
  case round =>
    obtain ⟨i, rfl, HD, HF⟩ := hrel
    clear AF
    have hd := HD.out
    have hlen := HL.out
    cases gk with
    | zero =>
      have e1 : decide (i < l.length) = false := decide_eq_false (by omega)
      have hi : i = l.length := by omega
      subst hi
      have HF2 := HF.out
      rw [List.take_length] at HF2
      have HF3 := Aside0.mk HF2
      clear hd hlen HF2 HF
      go_wp2
      go_end0
      exact ⟨rfl, HF3.out⟩
    | succ d =>
      have hi : i < l.length := by omega
      have e1 : decide (i < l.length) = true := decide_eq_true hi
      have hiI : (i : Int) ≤ 140737488351232 := by omega
      have hw1 : wrap64 ((i : Int) + 1) = (i : Int) + 1 := by unfold wrap64; omega
      obtain ⟨tag1, va1, vg1, vc1, h1, hk1, hb1, ht1, h31⟩ := HF.out
      have ha1 : Kd.F k156 wr (fun k => k < w.heap.size ∧ tag k = 0) A l.length l := Kd.F_step HA.out fun k hk _ => hk1.2 k hk.1 (fun hn => hn hk.2)
      obtain ⟨ad, A1, c1, eA, x0, x1, m1, q1⟩ := at_T156 (Kd.F_now ha1) (i : Int) (by omega) (by omega)
      subst eA
      have hm := HX.out (rd_T156 l (i : Int)) (by rw [show rd_T156 l (i : Int) = l[i] from getD_at hi]; exact List.getElem_mem hi)
      have htk : l.take (i + 1) = l.take i ++ [rd_T156 l (i : Int)] := by
        rw [List.take_succ_eq_append_getElem hi, show rd_T156 l (i : Int) = l[i] from getD_at hi]
      obtain ⟨X, hX⟩ : ∃ X, X = rd_T156 l (i : Int) := ⟨_, rfl⟩
      rw [← hX] at x0 x1 m1 q1 hm htk
      clear hX
      have HTK := Aside0.mk htk
      simp only [Int.toNat_natCast] at x0 x1
      obtain ⟨rows, hrl, hL, hf⟩ := h1.rc
      have hone : ∃ Av cv, vc1 = .slice Av (cs ++ l.take i).length cv := h1.rc.one
      obtain ⟨Av, cv, rfl⟩ := hone
      have hcl : (cs ++ l.take i).length ≤ 3000000000000 := by rw [List.length_append, List.length_take]; have := HN.out; omega
      have HCL := Aside0.mk hcl
      have H1 := Aside0.mk h1
      have HR := Aside0.mk hL
      have HRL := Aside0.mk hrl
      have HRF := Aside0.mk hf
      have HB0 := Aside0.mk (below_drew (below_alloc (Below.refl wr.heap.size wr) (.cells #[.string X.f0, .slice A1 X.f1.length c1] 156)))
      have OC := Aside0.mk (ownCall_calls (wr.alloc (.cells #[.string X.f0, .slice A1 X.f1.length c1] 156)).drew X A1 c1 (Kd.C_below q1 HB0.out) hm)
      have hgl := (h1.tagged g (by rw [h1.gtag]; decide)).2
      have cw : ∀ W : World, Below wr.heap.size wr W → W.cell? ⟨g, 2, none⟩ = some (.slice Av (cs ++ l.take i).length cv) ∧ W.frozen? ⟨g, 2, none⟩ = false := fun W hW => by
        have hbx := (hW.block g hgl).trans h1.box
        exact ⟨(blk_cell hbx 2).trans rfl, blk_frozen hbx 2⟩
      have CW := Aside0.mk cw
      obtain ⟨a0, b0⟩ := cw _ HB0.out
      have TH := Aside0.mk (fun {W2 : World} (h2 : QsAfter base wr g tag1 an gs (cs ++ l.take (i + 1)) W2) => show QsAfter base w g tag an gs (cs ++ l.take (i + 1)) W2 from QsAfter.then_ hk1 hb1 ht1 h31 h2)
      clear h1 hk1 hb1 ht1 h31 ha1 q1 hm htk hrl hL hf hcl cw hgl hd hlen m1
      obtain ⟨n1, hn1⟩ : ∃ n1, n1 = (cs ++ l.take i).length := ⟨_, rfl⟩
      go_wp2
      go_region_law (first
        | (refine loose_append_step rfl (.tmp 18) (.tmp 22) 80 156 (.agg #[.string ⟨#[]⟩, .slice none 0 0]) 2 40 rfl Try.underlying80 info156 rfl (by decide) (by decide) (.slice Av (cs ++ l.take i).length cv) (cs ++ l.take i).length rows.flatten (some ⟨w2.heap.size, 0, none⟩) 1 1 [.string X.f0, .slice A2 X.f1.length c2] (by simp [Act.eval, Act.put]) (by simp [Act.eval, Act.put]) ?cO ?cR ?cL ?_
           case cO => exact (HR.out.move fun k hk => (HB.out.alloc HB.out.size _).block k (HR.out.lt k hk))
           case cR => exact lit_src2 w2 156 2 _ _ rfl rfl rfl
           case cL => have := HCL.out; omega
           intro v1 w3 h1 h2 h3
           obtain ⟨x2, y2, rfl⟩ : ∃ x2 y2, v1 = .slice x2 ((cs ++ l.take i).length + 1) y2 := by
             rcases h1.2 with ⟨_, h0⟩ | ⟨gg, cap, cur, rfl, _⟩
             · omega
             · exact ⟨_, _, rfl⟩
           have hbx : w3.heap[g]? = _ := ((h2.block g (by rw [World.size_alloc]; have := HB.out.size; have := (H1.out.tagged g (by rw [H1.out.gtag]; decide)).2; omega) fun e => by have := H1.out.ct_ g e.symm; have := H1.out.gtag; omega).trans ((HB.out.alloc HB.out.size _).block g (H1.out.tagged g (by rw [H1.out.gtag]; decide)).2)).trans H1.out.box
           have a0 := (blk_cell hbx 2).trans rfl
           have b0 := blk_frozen hbx 2
           have G1 := Aside0.mk h1
           have G2 := Aside0.mk h2
           have G3 := Aside0.mk h3
           clear h1 h2 h3 hbx)
        | (go_simp
           go_wp2_with (first
             | (go_at_call 67
                (with_reducible refine OC.out.mono ?_)
                rintro e1 w2 ⟨A2, c2, rfl, hc2, hF2, hb⟩
                have L2 := Aside0.mk hc2
                have F2 := Aside0.mk hF2
                have HB := Aside0.mk (below_then HB0.out HB0.out.size hb)
                have HS2 := Aside0.mk hb.size
                obtain ⟨a0, b0⟩ := CW.out _ HB.out
                have ax : ∀ o, (w2.alloc o).cell? ⟨g, 2, none⟩ = some (.slice Av (cs ++ l.take i).length cv) := fun o => (CW.out _ (HB.out.alloc HB.out.size o)).1
                clear hb hc2 hF2)
             | fail)))
      all_goals
        go_wp2
        go_roundg d
        case measure => omega
        case rel =>
          have HBW := HB.out.alloc HB.out.size (.cells #[.string X.f0, .slice A2 X.f1.length c2] 156)
          have hs2 := HS2.out
          have hdr : ((wr.alloc (.cells #[.string X.f0, .slice A1 X.f1.length c1] 156)).drew).heap.size = wr.heap.size + 1 := World.size_alloc wr _
          have hR := Row.appended (d := k156) (e := 156) (xs := cs ++ l.take i) (ys := [X]) (ok := fun k => k < base ∨ tag1 k = 3 ∨ wr.heap.size ≤ k ∧ k < (w2.alloc (.cells #[.string X.f0, .slice A2 X.f1.length c2] 156)).heap.size) (W := w2.alloc (.cells #[.string X.f0, .slice A2 X.f1.length c2] 156)) (w1 := w3) (v := .slice Av (cs ++ l.take i).length cv) (rows := rows) (news := [[.string X.f0, .slice A2 X.f1.length c2]]) HRL.out
            (fun j x c hx hc => Kd.FK_mono (Kd.FK_step (HRF.out j x c hx hc) fun k _ hlt => HBW.block k hlt) fun k hk => hk.imp id .inl) rfl
            (fun j x c hx hc => by
              cases j with
              | succ j => simp at hx
              | zero =>
                simp only [List.getElem?_cons_zero, Option.some.injEq] at hx hc
                subst hx hc
                exact k156_mkF _ _ _ L2.out (Kd.F_mono (Kd.F_alloc F2.out _) fun k hk => .inr (.inr ⟨by rw [hdr] at hk; omega, by rw [World.size_alloc]; omega⟩)))
            G1.out G2.out (fun k hk e => by
              have h2 := H1.out.ct_ k e.symm
              have h3 := H1.out.tagged k (by omega)
              rcases hk with hk | hk | hk <;> omega)
          rw [List.append_assoc, ← HTK.out] at hR
          have fin := H1.out.set_c HBW hR G2.out (fun b hb => by
            rcases G3.out with e | ⟨b', e, hle⟩
            · exact .inl (e.symm.trans hb)
            · rw [e] at hb
              injection hb with hb
              exact .inr (by omega))
          refine ⟨i + 1, by push_cast; rfl, ⟨by have := HD.out; omega⟩, ⟨TH.out ?_⟩⟩
          have hnn : (cs ++ l.take i).length + 1 = cs.length + min i l.length + 1 := by rw [List.length_append, List.length_take]
          rw [hnn] at fin
          exact fin
end Go.Proofs.Ytkpjdkmggbelfaa.Host
