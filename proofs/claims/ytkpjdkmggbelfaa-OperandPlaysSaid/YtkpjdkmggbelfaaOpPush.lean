/- The walks of Push, Pop, Kill, Frames, Lying of operand's stack. -/
import Derived.Test.YtkpjdkmggbelfaaOpOpen
namespace Go.Proofs.Ytkpjdkmggbelfaa.Operand
open Go.RowKit Go.Proofs.YtkpjdkmggbelfaaW.PrintWords Go.Proofs.YtkpjdkmggbelfaaW.PrintLast Go.Proofs.YtkpjdkmggbelfaaW.PrintMore Go.Proofs.Ytkpjdkmggbelfaa.Mem
set_option linter.unusedVariables false
set_option linter.unusedSimpArgs false
theorem stk_empty {base : Nat} {w : World} {g : Nat} {tag : Nat → Nat} {v : Value} {cells : List Value} (h : Stk base w g tag [] v cells) : ∃ A c, v = .slice A 0 c ∧ Box w g (.slice A 0 c) true := by
  obtain ⟨A, c, rfl⟩ := row_one h.row
  exact ⟨A, c, rfl, h.box⟩
/-- What is known of the last frame. -/
structure Last (w : World) (g b m cap : Nat) (vt : Value) (f : Fr) : Prop where
  box : Box w g (.slice (some ⟨b, 0, none⟩) (m + 1) cap) true
  c2 : w.cell? ⟨b, m * 4 + 2, none⟩ = some vt
  c3 : w.cell? ⟨b, m * 4 + 3, none⟩ = some (.bool f.dead)
  fz : ∀ i, w.frozen? ⟨b, i, none⟩ = false
  row : Loose w 5 1 vt f.types.length (nums .u8 f.types)
  cap1 : m + 1 ≤ cap
  capm : cap ≤ maxLen
theorem stk_last {base : Nat} {w : World} {g : Nat} {tag : Nat → Nat} {gs : List Fr} {f : Fr} {v : Value} {cells : List Value} (h : Stk base w g tag (gs ++ [f]) v cells) :
    ∃ b cap vt A0 c0 A1 c1, v = .slice (some ⟨b, 0, none⟩) (gs.length + 1) cap ∧ cells[gs.length * 4 + 2]? = some vt ∧ Last w g b gs.length cap vt f ∧ FrAt w tag gs.length f cells A0 c0 A1 c1 vt := by
  have hrow := h.row
  have hlen : (gs ++ [f]).length = gs.length + 1 := by simp
  rw [hlen] at hrow
  obtain ⟨A0, c0, A1, c1, vt, hf⟩ := h.at_ gs.length f getLast_at
  have hbox := h.box
  rcases hrow.2 with ⟨_, h0⟩ | ⟨b, cap, cur, rfl, hg, hn, hm, hs, ht⟩
  · omega
  · refine ⟨b, cap, vt, A0, c0, A1, c1, rfl, hf.e2, ⟨hbox, loose_cell hrow _ _ hf.e2, loose_cell hrow _ _ hf.e3, fun i => loose_free hrow i, hf.r2, hn, hm⟩, hf⟩
theorem cell_of {W W' : World} {p : Addr} (h : W'.heap[p.block]? = W.heap[p.block]?) {u : Value} (hc : W.cell? p = some u) : W'.cell? p = some u := by
  simpa [World.cell?, h] using hc
theorem frozen_of {W W' : World} {p : Addr} (h : W'.heap[p.block]? = W.heap[p.block]?) {u : Bool} (hc : W.frozen? p = u) : W'.frozen? p = u := by
  simpa [World.frozen?, h] using hc
theorem grown_drewN {W w1 : World} {n : Nat} {row : Option Nat} (h : (W.drewN n).grownBy w1 row) : W.grownBy w1 row := ⟨h.os, h.tape, h.output, h.size, h.block⟩
theorem loose_cu {w : World} {v : Value} {xs : List Int} (h : Loose w 5 1 v xs.length (nums .u8 xs)) : ∃ A c, v = .slice A xs.length c ∧ xs.length ≤ c ∧ ku.C w A xs.length xs := Loose.C (h1 := fun _ => rfl) h
/-! ### Push -/
set_option maxRecDepth 100000 in
set_option maxHeartbeats 1000000 in
theorem Push_none (base : Nat) (w : World) (g : Nat) (tag : Nat → Nat) (v : Value) (cells : List Value) (h : Stk base w g tag [] v cells) (hb : base ≤ w.heap.size)
    (A0 : Option Addr) (c0 : Nat) (l : List Int) : Calls Try.prog 38 #[.pointer (some ⟨g, 0, none⟩), .slice A0 l.length c0] w (VoidPost base w g tag []) := by
  obtain ⟨A, c, rfl, hbox⟩ := stk_empty h
  have H := Aside0.mk h
  have HX := Aside0.mk hbox
  have HB := Aside0.mk hb
  clear h hb hbox
  go_enter Try.func38, Try.ntmps38
  go_wp2_with ((with_reducible refine (last_empty _ _ _ _ HX.out).mono ?_); rintro e w' ⟨rfl, rfl⟩)
  go_end0
  exact ⟨rfl, After.same H.out (Below.refl _ _) HB.out⟩
set_option maxRecDepth 100000 in
set_option maxHeartbeats 1000000 in
theorem Push_some (base : Nat) (w : World) (g : Nat) (tag : Nat → Nat) (gs : List Fr) (f : Fr) (v : Value) (cells : List Value) (h : Stk base w g tag (gs ++ [f]) v cells) (hm : gs.length ≤ 1000000) (hn : f.types.length ≤ 1000000)
    (A0 : Option Addr) (c0 : Nat) (l : List Int) (h0 : ku.C w A0 l.length l) (hl : l.length ≤ 1000000) : Calls Try.prog 38 #[.pointer (some ⟨g, 0, none⟩), .slice A0 l.length c0] w (VoidPost base w g tag (gs ++ [{ f with types := f.types ++ l }])) := by
  obtain ⟨b, cap, vt, B0, d0, B1, d1, rfl, hvt, hL, hF⟩ := stk_last h
  have H := Aside0.mk h
  have HV := Aside0.mk hvt
  have HL := Aside0.mk hL
  have HF := Aside0.mk hF
  have HM := Aside0.mk hm
  have HN := Aside0.mk hn
  have HN2 := Aside0.mk hl
  have HS := Aside0.mk (raw_scalar h0)
  have c2 := hL.c2
  obtain ⟨A, cc, rfl⟩ := row_one hL.row
  clear h hvt hL hF hm hn h0 hl
  go_enter Try.func38, Try.ntmps38
  go_wp2_with (first
    | (go_at_call 73
       (with_reducible refine (last_some _ _ _ _ _ HL.out.box HM.out).mono ?_)
       rintro e w' ⟨rfl, nn, rfl⟩)
    | (at_builtin
       refine loose_append rfl (.tmp 13) (.tmp 14) 32 5 (.int .u8 0) 1 1 rfl Try.underlying32 info5 rfl (by decide) (by decide) (.slice A f.types.length cc) f.types.length (nums .u8 f.types) A0 l.length c0 (nums .u8 l) rfl rfl HL.out.row HS.out (by have := HN.out; have := HN2.out; omega) ?_
       intro v1 w1 h1 h2 h3
       obtain ⟨x2, y2, rfl⟩ := row_one h1
       have hbk := h2.block b (H.out.tagged b (by rw [H.out.vtag b rfl]; decide)).2 (fun e => by have := HF.out.t2 b e.symm; have := H.out.vtag b rfl; omega)
       have s2 := cell_of (p := ⟨b, gs.length * 4 + 2, none⟩) hbk HL.out.c2
       have f2 := frozen_of (p := ⟨b, gs.length * 4 + 2, none⟩) hbk (HL.out.fz _)
       have H1 := Aside0.mk h1
       have H2 := Aside0.mk h2
       have H3 := Aside0.mk h3
       clear h1 h2 h3 hbk)
    | fail)
  go_end0
  refine ⟨rfl, AfterV.any (stk_types (ts := f.types ++ l) H.out HV.out (grown_drewN H2.out) ?_ (hat_of H3.out))⟩
  have := H1.out
  rw [← nums_append] at this
  rw [List.length_append]
  exact this
/-! ### Kill -/
set_option maxRecDepth 100000 in
set_option maxHeartbeats 1000000 in
theorem Kill_none (base : Nat) (w : World) (g : Nat) (tag : Nat → Nat) (v : Value) (cells : List Value) (h : Stk base w g tag [] v cells) (hb : base ≤ w.heap.size) : Calls Try.prog 42 #[.pointer (some ⟨g, 0, none⟩)] w (VoidPost base w g tag []) := by
  obtain ⟨A, c, rfl, hbox⟩ := stk_empty h
  have H := Aside0.mk h
  have HX := Aside0.mk hbox
  have HB := Aside0.mk hb
  clear h hb hbox
  go_enter Try.func42, Try.ntmps42
  go_wp2_with ((with_reducible refine (last_empty _ _ _ _ HX.out).mono ?_); rintro e w' ⟨rfl, rfl⟩)
  go_end0
  exact ⟨rfl, After.same H.out (Below.refl _ _) HB.out⟩
theorem grown_refl (w : World) (n : Nat) (row : Option Nat) : w.grownBy (w.drewN n) row := ⟨rfl, rfl, rfl, Nat.le_refl _, fun _ _ _ => rfl⟩
set_option maxRecDepth 100000 in
set_option maxHeartbeats 1000000 in
theorem Kill_some (base : Nat) (w : World) (g : Nat) (tag : Nat → Nat) (gs : List Fr) (f : Fr) (v : Value) (cells : List Value) (h : Stk base w g tag (gs ++ [f]) v cells) (hm : gs.length ≤ 1000000) :
    Calls Try.prog 42 #[.pointer (some ⟨g, 0, none⟩)] w (VoidPost base w g tag (gs ++ [{ f with types := [], dead := true }])) := by
  obtain ⟨b, cap, vt, B0, d0, B1, d1, rfl, hvt, hL, hF⟩ := stk_last h
  have H := Aside0.mk h
  have HV := Aside0.mk hvt
  have HL := Aside0.mk hL
  have HM := Aside0.mk hm
  have c2 := hL.c2
  have c3 := hL.c3
  have f2 := hL.fz (gs.length * 4 + 2)
  have f3 := hL.fz (gs.length * 4 + 3)
  clear h hvt hL hF hm
  go_enter Try.func42, Try.ntmps42
  go_wp2_with (first
    | (go_at_call 73
       (with_reducible refine (last_some _ _ _ _ _ HL.out.box HM.out).mono ?_)
       rintro e w' ⟨rfl, nn, rfl⟩)
    | fail)
  go_end0
  refine ⟨rfl, ?_⟩
  obtain ⟨tag1, cells1, h1, hk1, hb1, ht1, h31⟩ := stk_types (ts := []) H.out HV.out (grown_refl w nn _) (Loose.nil _ _ _) (fun t ht => by cases ht)
  exact (AfterV.then_ hk1 hb1 ht1 h31 (stk_dead true h1)).any
/-! ### Frames, Lying -/
set_option maxRecDepth 100000 in
set_option maxHeartbeats 1000000 in
theorem Frames_calls (base : Nat) (w : World) (g : Nat) (tag : Nat → Nat) (fs : List Fr) (v : Value) (cells : List Value) (h : Stk base w g tag fs v cells) : Calls Try.prog 46 #[.pointer (some ⟨g, 0, none⟩)] w fun e w' => e = .returned (.int .i64 (fs.length : Int)) ∧ w = w' := by
  obtain ⟨A, c, rfl⟩ := row_one h.row
  have c0 := h.box.c0
  have HX := Aside0.mk h.box
  clear h
  go_enter Try.func46, Try.ntmps46
  go_wp2_with ((with_reducible refine (is_calls _ _ _ _ HX.out).mono ?_); rintro e w' ⟨rfl, rfl⟩)
  go_ret
  exact ⟨rfl, rfl⟩
set_option maxRecDepth 100000 in
set_option maxHeartbeats 1000000 in
theorem Lying_none (base : Nat) (w : World) (g : Nat) (tag : Nat → Nat) (v : Value) (cells : List Value) (h : Stk base w g tag [] v cells) : Calls Try.prog 40 #[.pointer (some ⟨g, 0, none⟩)] w (ClonePost w []) := by
  obtain ⟨A, c, rfl, hbox⟩ := stk_empty h
  have HX := Aside0.mk hbox
  clear h hbox
  go_enter Try.func40, Try.ntmps40
  go_wp2_with ((with_reducible refine (last_empty _ _ _ _ HX.out).mono ?_); rintro e w' ⟨rfl, rfl⟩)
  go_ret
  exact ⟨_, rfl, Loose.nil _ _ _, (fun b hb => by cases hb), Below.refl _ _⟩
set_option maxRecDepth 100000 in
set_option maxHeartbeats 1000000 in
theorem Lying_some (base : Nat) (w : World) (g : Nat) (tag : Nat → Nat) (gs : List Fr) (f : Fr) (v : Value) (cells : List Value) (h : Stk base w g tag (gs ++ [f]) v cells) (hm : gs.length ≤ 1000000) (hn : f.types.length ≤ 1000000) :
    Calls Try.prog 40 #[.pointer (some ⟨g, 0, none⟩)] w (ClonePost w f.types) := by
  obtain ⟨b, cap, vt, B0, d0, B1, d1, rfl, hvt, hL, hF⟩ := stk_last h
  have HL := Aside0.mk hL
  have HM := Aside0.mk hm
  have HN := Aside0.mk hn
  have c2 := hL.c2
  obtain ⟨A, cc, rfl, hcc, hC⟩ := loose_cu hL.row
  have HC := Aside0.mk hC
  clear h hvt hL hF hm hn hC hcc
  go_enter Try.func40, Try.ntmps40
  go_wp2_with (first
    | (go_at_call 73
       (with_reducible refine (last_some _ _ _ _ _ HL.out.box HM.out).mono ?_)
       rintro e w' ⟨rfl, nn, rfl⟩)
    | (go_at_call 72
       (with_reducible refine (clone_calls A cc f.types (w.drewN nn) (Kd.C_below HC.out (pw_below_drewN (Below.refl _ _) _)) HN.out).mono ?_)
       rintro e w' ⟨v1, rfl, hl, hn, hb⟩
       have L1 := Aside0.mk hl
       have N1 := Aside0.mk hn
       have B1 := Aside0.mk hb
       clear hl hn hb)
    | fail)
  go_ret
  exact ⟨v1, rfl, L1.out, (fun b hb => N1.out b hb), below_then (pw_below_drewN (Below.refl _ _) _) (Nat.le_refl _) B1.out⟩
end Go.Proofs.Ytkpjdkmggbelfaa.Operand
