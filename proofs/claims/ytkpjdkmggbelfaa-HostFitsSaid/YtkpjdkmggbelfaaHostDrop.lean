/- The walks of a queue's rows: what is dropped. -/
import Derived.Test.YtkpjdkmggbelfaaHostMeth
import Derived.Deep.Slices
namespace Go.Proofs.Ytkpjdkmggbelfaa.Host
open Go.RowKit Go.Proofs.YtkpjdkmggbelfaaW.PrintWords Go.Proofs.YtkpjdkmggbelfaaW.PrintLast Go.Proofs.YtkpjdkmggbelfaaW.PrintMore Go.Proofs.Ytkpjdkmggbelfaa.Mem Go.Proofs.Ytkpjdkmggbelfaa.PHostPlays
set_option linter.unusedVariables false
set_option linter.unusedSimpArgs false
theorem flat_drop {sz : Nat} : ∀ {rows : List (List Value)} (m : Nat), (∀ c ∈ rows, c.length = sz) → (rows.drop m).flatten = rows.flatten.drop (m * sz)
  | rows, 0, _ => by simp
  | [], m + 1, _ => by simp
  | c :: r, m + 1, h => by
    rw [List.drop_succ_cons, List.flatten_cons, flat_drop m (fun c hc => h c (List.mem_cons_of_mem _ hc)), Nat.add_mul, Nat.one_mul, List.drop_append]
    have := h c (List.mem_cons_self ..)
    have e0 : List.drop (m * sz + sz) c = [] := List.drop_eq_nil_of_le (by omega)
    rw [this, e0, List.nil_append, show m * sz + sz - sz = m * sz by omega]
/-- A row's rest. -/
theorem loose_rest {W : World} {e sz n c m : Nat} {A : Option Addr} {rows : List (List Value)} (h : Loose W e sz (.slice A n c) n rows.flatten) (hl : rows.length = n) (hs : ∀ c ∈ rows, c.length = sz) (h1 : ∀ u ∈ rows.flatten, u.oneCell' = true) (hm : m ≤ n) :
    RawSrc W sz (A.map (·.add (m * sz))) (n - m) (rows.drop m).flatten := by
  refine ⟨by rw [flat_length (fun c hc => hs c (List.mem_of_mem_drop hc)), List.length_drop, hl], fun u hu => ?_, fun hA => ?_, fun ad e j u hu => ?_⟩
  · rw [flat_drop m hs] at hu
    exact h1 u (List.mem_of_mem_drop hu)
  · rcases h.2 with ⟨_, h0⟩ | ⟨g, cap, cur, he, _⟩
    · omega
    · injection he with he
      subst he
      cases hA
  · cases A with
    | none => cases e
    | some a =>
      simp only [Option.map_some, Option.some.injEq] at e
      subst e
      rw [flat_drop m hs, List.getElem?_drop] at hu
      have := h.get.2.2 a rfl _ u hu
      rwa [Go.Deep.add_add]
theorem one_raw {W : World} {n m : Nat} {A : Option Addr} {cells : List Value} (h : RawSrc W 1 (A.map (·.add (m * 1))) n cells) : RawSrc W 1 (A.map (·.add m)) n cells := by rwa [Nat.mul_one] at h
theorem raw_none {W : World} {sz : Nat} {A : Option Addr} {rows : List (List Value)} (h : rows = []) : RawSrc W sz A 0 rows.flatten := by
  subst h
  exact ⟨by simp, by simp, fun _ => rfl, fun ad e j u hu => by simp at hu⟩
set_option maxRecDepth 100000 in
set_option maxHeartbeats 4000000 in
theorem drop_answers (base : Nat) (w : World) (g : Nat) (tag : Nat → Nat) (an : List S109) (gs : List Bool) (cs : List S156) (va vg vc : Value) (h : Qs base w g tag an gs cs va vg vc) (hn : an.length ≤ 4398046510976) (m : Nat) (hm : m ≤ an.length) :
    Calls Try.prog 64 #[.pointer (some ⟨g, 0, none⟩), .int .i64 (m : Int)] w (QVoid base w g tag (an.drop m) gs cs) := by
  obtain ⟨A, c, rfl⟩ : ∃ A c, va = .slice A an.length c := h.ra.one
  have H := Aside0.mk h
  have hc := h.ra.F.2.1
  have x0 : w.cell? ⟨g, 0, none⟩ = some (.slice A an.length c) := (blk_cell h.box 0).trans rfl
  obtain ⟨rows, hrl, hL, hf⟩ := h.ra
  have hcI : (an.length : Int) ≤ (c : Int) := by omega
  have hmI : (m : Int) ≤ (an.length : Int) := by omega
  have hmC : (m : Int) ≤ (c : Int) := by omega
  have hnI : (an.length : Int) ≤ 140737488351232 := by omega
  have hfd : ∀ (j : Nat) (x : S109) (c : List Value), (an.drop m)[j]? = some x → (rows.drop m)[j]? = some c → Kd.FK k109 w (Okk base tag) x c := fun j x c hx hc => by
    rw [List.getElem?_drop] at hx hc
    exact hf _ x c hx hc
  by_cases hcm : c = m
  · have hnm : an.length = m := by omega
    have CL : Calls Try.prog 83 #[.slice A 0 0] w (CopyPost k109 109 w (Okk base tag) []) := clone_answers_raw A 0 [] w (Okk base tag) [] rfl (raw_none rfl) (fun j x c hx => by simp at hx) (by simp)
    have hdn : an.drop m = [] := List.drop_eq_nil_of_le (by omega)
    rw [hdn]
    subst hcm
    clear hfd hf hL hrl hnm hdn
    have CC := Aside0.mk CL
    clear CL h
    go_enter Try.func64, Try.ntmps64
    go_wp2_with (first
      | (go_at_call 83
         (refine CC.out.mono ?_)
         rintro e w2 ⟨v2, rfl, hr, hnw, hb⟩
         obtain ⟨A2, c2, rfl⟩ := hr.one
         have hbx := (hb.block g (H.out.tagged g (by rw [H.out.gtag]; decide)).2).trans H.out.box
         have y0 := (blk_cell hbx 0).trans rfl
         have y1 := blk_frozen hbx 0
         have R := Aside0.mk hr
         have NW := Aside0.mk hnw
         have HB := Aside0.mk hb
         clear hr hnw hb hbx)
      | fail)
    go_end0
    have fin := H.out.set_a (Below.refl _ _) (R.out.mono fun k hk => hk.imp id .inl) (grown_of_below HB.out _) (fun b hb => .inr (NW.out b hb))
    exact ⟨rfl, fin⟩
  · have CL := clone_answers_raw (A.map (·.add (m * 2))) (c - m) (an.drop m) w (Okk base tag) (rows.drop m) (by rw [List.length_drop, List.length_drop, hrl]) (by rw [List.length_drop]; exact id (loose_rest hL hrl (rows_len hrl hf) (rows_one hrl hf) hm)) hfd (by rw [List.length_drop]; omega)
    clear hfd hf hL hrl
    rw [List.length_drop] at CL
    have CC := Aside0.mk CL
    clear CL h
    go_enter Try.func64, Try.ntmps64
    go_wp2_with (first
      | (go_at_call 83
         (refine CC.out.mono ?_)
         rintro e w2 ⟨v2, rfl, hr, hnw, hb⟩
         obtain ⟨A2, c2, rfl⟩ := hr.one
         have hbx := (hb.block g (H.out.tagged g (by rw [H.out.gtag]; decide)).2).trans H.out.box
         have y0 := (blk_cell hbx 0).trans rfl
         have y1 := blk_frozen hbx 0
         have R := Aside0.mk hr
         have NW := Aside0.mk hnw
         have HB := Aside0.mk hb
         clear hr hnw hb hbx)
      | fail)
    go_end0
    have fin := H.out.set_a (Below.refl _ _) (R.out.mono fun k hk => hk.imp id .inl) (grown_of_below HB.out _) (fun b hb => .inr (NW.out b hb))
    rw [List.length_drop] at fin
    exact ⟨rfl, fin⟩
set_option maxRecDepth 100000 in
set_option maxHeartbeats 4000000 in
theorem drop_truths (base : Nat) (w : World) (g : Nat) (tag : Nat → Nat) (an : List S109) (gs : List Bool) (cs : List S156) (va vg vc : Value) (h : Qs base w g tag an gs cs va vg vc) (hn : gs.length ≤ 140737488351232) (m : Nat) (hm : m ≤ gs.length) :
    Calls Try.prog 65 #[.pointer (some ⟨g, 1, none⟩), .int .i64 (m : Int)] w (QVoid base w g tag an (gs.drop m) cs) := by
  obtain ⟨A, c, rfl⟩ : ∃ A c, vg = .slice A gs.length c := h.rg.one
  have H := Aside0.mk h
  have hc := h.rg.F.2.1
  have x0 : w.cell? ⟨g, 1, none⟩ = some (.slice A gs.length c) := (blk_cell h.box 1).trans rfl
  obtain ⟨rows, hrl, hL, hf⟩ := h.rg
  have hcI : (gs.length : Int) ≤ (c : Int) := by omega
  have hmI : (m : Int) ≤ (gs.length : Int) := by omega
  have hmC : (m : Int) ≤ (c : Int) := by omega
  have hnI : (gs.length : Int) ≤ 140737488351232 := by omega
  have hfd : ∀ (j : Nat) (x : Bool) (c : List Value), (gs.drop m)[j]? = some x → (rows.drop m)[j]? = some c → Kd.FK Kd.bool w (Okk base tag) x c := fun j x c hx hc => by
    rw [List.getElem?_drop] at hx hc
    exact hf _ x c hx hc
  by_cases hcm : c = m
  · have hnm : gs.length = m := by omega
    have CL : Calls Try.prog 69 #[.slice A 0 0] w (CopyPost Kd.bool 4 w (Okk base tag) []) := clone_truths_raw A 0 [] w (Okk base tag) [] rfl (raw_none rfl) (fun j x c hx => by simp at hx) (by simp)
    have hdn : gs.drop m = [] := List.drop_eq_nil_of_le (by omega)
    rw [hdn]
    subst hcm
    clear hfd hf hL hrl hnm hdn
    have CC := Aside0.mk CL
    clear CL h
    go_enter Try.func65, Try.ntmps65
    go_wp2_with (first
      | (go_at_call 69
         (refine CC.out.mono ?_)
         rintro e w2 ⟨v2, rfl, hr, hnw, hb⟩
         obtain ⟨A2, c2, rfl⟩ := hr.one
         have hbx := (hb.block g (H.out.tagged g (by rw [H.out.gtag]; decide)).2).trans H.out.box
         have y0 := (blk_cell hbx 1).trans rfl
         have y1 := blk_frozen hbx 1
         have R := Aside0.mk hr
         have NW := Aside0.mk hnw
         have HB := Aside0.mk hb
         clear hr hnw hb hbx)
      | fail)
    go_end0
    have fin := H.out.set_g (Below.refl _ _) (R.out.mono fun k hk => hk.imp id .inl) (grown_of_below HB.out _) (fun b hb => .inr (NW.out b hb))
    exact ⟨rfl, fin⟩
  · have CL := clone_truths_raw (A.map (·.add m)) (c - m) (gs.drop m) w (Okk base tag) (rows.drop m) (by rw [List.length_drop, List.length_drop, hrl]) (by rw [List.length_drop]; exact one_raw (loose_rest hL hrl (rows_len hrl hf) (rows_one hrl hf) hm)) hfd (by rw [List.length_drop]; omega)
    clear hfd hf hL hrl
    rw [List.length_drop] at CL
    have CC := Aside0.mk CL
    clear CL h
    go_enter Try.func65, Try.ntmps65
    go_wp2_with (first
      | (go_at_call 69
         (refine CC.out.mono ?_)
         rintro e w2 ⟨v2, rfl, hr, hnw, hb⟩
         obtain ⟨A2, c2, rfl⟩ := hr.one
         have hbx := (hb.block g (H.out.tagged g (by rw [H.out.gtag]; decide)).2).trans H.out.box
         have y0 := (blk_cell hbx 1).trans rfl
         have y1 := blk_frozen hbx 1
         have R := Aside0.mk hr
         have NW := Aside0.mk hnw
         have HB := Aside0.mk hb
         clear hr hnw hb hbx)
      | fail)
    go_end0
    have fin := H.out.set_g (Below.refl _ _) (R.out.mono fun k hk => hk.imp id .inl) (grown_of_below HB.out _) (fun b hb => .inr (NW.out b hb))
    rw [List.length_drop] at fin
    exact ⟨rfl, fin⟩
end Go.Proofs.Ytkpjdkmggbelfaa.Host
