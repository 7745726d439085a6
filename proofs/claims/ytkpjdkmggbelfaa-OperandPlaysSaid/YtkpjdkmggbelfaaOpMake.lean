/- What a stack's methods make of it in memory. -/
import Derived.Test.YtkpjdkmggbelfaaOpStk
namespace Go.Proofs.Ytkpjdkmggbelfaa.Operand
open Go.RowKit Go.Proofs.YtkpjdkmggbelfaaW.PrintWords Go.Proofs.YtkpjdkmggbelfaaW.PrintLast Go.Proofs.YtkpjdkmggbelfaaW.PrintMore Go.Proofs.Ytkpjdkmggbelfaa.Mem
set_option linter.unusedVariables false
set_option linter.unusedSimpArgs false
theorem getLast_at {gs : List Fr} {f : Fr} : (gs ++ [f])[gs.length]? = some f := by simp
/-- The last frame has other types. -/
theorem stk_types {base : Nat} {W W1 : World} {g b cap : Nat} {tag : Nat → Nat} {gs : List Fr} {f : Fr} {cells : List Value} {vt vt' : Value} {ts : List Int}
    (h : Stk base W g tag (gs ++ [f]) (.slice (some ⟨b, 0, none⟩) (gs.length + 1) cap) cells) (hvt : cells[gs.length * 4 + 2]? = some vt)
    (hg : W.grownBy W1 vt.ownBlock) (hL : Loose W1 5 1 vt' ts.length (nums .u8 ts)) (hat : ∀ t, vt'.ownBlock = some t → vt.ownBlock = some t ∨ W.heap.size ≤ t) :
    AfterV base W g tag (gs ++ [{ f with types := ts }]) (.slice (some ⟨b, 0, none⟩) (gs.length + 1) cap) (W1.setCell ⟨b, gs.length * 4 + 2, none⟩ vt') := by
  obtain ⟨h1, h2, h3, h4, h5, h6⟩ := h
  have hlen : (gs ++ [f]).length = gs.length + 1 := by simp
  rw [hlen] at h5
  obtain ⟨A0, c0, A1, c1, vt0, e0, e1, e2, e3, l0, r0, l1, r1, r2, t2⟩ := h6 gs.length f getLast_at
  obtain rfl : vt = vt0 := by rw [e2] at hvt; injection hvt with hvt; exact hvt.symm
  have hb2 : tag b = 2 := h4 b rfl
  have hblt := (h1 b (by omega)).2
  have hglt := (h1 g (by omega)).2
  have hbase : base ≤ W.heap.size := by have := (h1 g (by omega)).1; omega
  have hsz : (W1.setCell ⟨b, gs.length * 4 + 2, none⟩ vt').heap.size = W1.heap.size := by simp [World.setCell]
  have old : ∀ k, k < W.heap.size → tag k ≠ gs.length + 4 → k ≠ b → (W1.setCell ⟨b, gs.length * 4 + 2, none⟩ vt').heap[k]? = W.heap[k]? := fun k hk h7 h8 =>
    (set_other k h8).trans (hg.block k hk fun e => h7 (t2 k e.symm))
  have hbt : some b ≠ vt.ownBlock := fun e => by have := t2 b e.symm; omega
  have hbt' : some b ≠ vt'.ownBlock := fun e => by
    rcases hat b e.symm with e2 | e2
    · exact hbt e2.symm
    · omega
  refine ⟨fun k => if vt'.ownBlock = some k then gs.length + 4 else tag k, cells.set (gs.length * 4 + 2) vt', ⟨?_, ?_, ?_, ?_, ?_, ?_⟩, ?_, ?_, ?_, ?_⟩
  · intro k hk
    rw [hsz]
    by_cases e : vt'.ownBlock = some k
    · have hlt := hL.lt k e
      refine ⟨?_, hlt⟩
      rcases hat k e with e2 | e2
      · exact (h1 k (by have := t2 k e2; omega)).1
      · omega
    · simp only [if_neg e] at hk
      exact ⟨(h1 k hk).1, Nat.lt_of_lt_of_le (h1 k hk).2 hg.size⟩
  · exact (old g hglt (by omega) (by rintro rfl; omega)).trans h2
  · have : vt'.ownBlock ≠ some g := by
      intro e
      rcases hat g e with e2 | e2
      · have := t2 g e2; omega
      · omega
    simp only [if_neg this]
    exact h3
  · intro b' hb'
    injection hb' with hb'
    subst hb'
    simp only [if_neg (Ne.symm hbt')]
    exact hb2
  · have hm : Loose W1 173 4 (.slice (some ⟨b, 0, none⟩) (gs.length + 1) cap) (gs.length + 1) cells := h5.move fun k hk => by
      injection hk with hk
      subst hk
      exact hg.block b hblt hbt
    have := loose_set hm (gs.length * 4 + 2) vt'
    simpa using this
  · intro j f' hj
    rcases Nat.lt_trichotomy j gs.length with hjl | hjl | hjl
    · rw [List.getElem?_append_left hjl] at hj
      obtain ⟨B0, d0, B1, d1, vu, hf⟩ := h6 j f' (by rw [List.getElem?_append_left hjl]; exact hj)
      refine ⟨B0, d0, B1, d1, vu, hf.move (fun k hk hlt => old k hlt (by omega) (by rintro rfl; omega)) (fun k hlt => ?_) (fun i hi => ?_)⟩
      · by_cases e : vt'.ownBlock = some k
        · simp only [if_pos e]
          rcases hat k e with e2 | e2
          · exact (t2 k e2).symm
          · omega
        · simp only [if_neg e]
      · rw [List.getElem?_set_ne (by omega)]
    · subst hjl
      rw [getLast_at] at hj
      injection hj with hj
      subst hj
      have hin : gs.length * 4 + 2 < cells.length := by rw [h5.1]; omega
      refine ⟨A0, c0, A1, c1, vt', by rw [List.getElem?_set_ne (by omega)]; exact e0, by rw [List.getElem?_set_ne (by omega)]; exact e1, List.getElem?_set_self hin, by rw [List.getElem?_set_ne (by omega)]; exact e3, l0, ?_, l1, ?_, ?_, ?_⟩
      · refine Kd.F_mono (Kd.F_step (Kd.F_bound r0) fun k hk hlt => old k hlt (by omega) (by rintro rfl; omega)) fun k hk => ?_
        have : vt'.ownBlock ≠ some k := by
          intro e
          rcases hat k e with e2 | e2
          · have := t2 k e2; omega
          · omega
        simp only [if_neg this]
        exact hk.1
      · refine Kd.F_mono (Kd.F_step (Kd.F_bound r1) fun k hk hlt => old k hlt (by omega) (by rintro rfl; omega)) fun k hk => ?_
        have : vt'.ownBlock ≠ some k := by
          intro e
          rcases hat k e with e2 | e2
          · have := t2 k e2; omega
          · omega
        simp only [if_neg this]
        exact hk.1
      · exact hL.move fun k hk => set_other k (by rintro rfl; exact hbt' hk.symm)
      · intro t ht
        simp only [if_pos ht]
    · rw [List.getElem?_eq_none (by simp; omega)] at hj
      cases hj
  · exact (Kept.of_grown hg (Kept.refl W _) fun k hk => .inl (by have := t2 k hk; omega)).setCell (.inl (by show tag b ≠ 0; omega)) _
  · exact ((Below.refl base W).grown hg hbase fun k hk => (h1 k (by have := t2 k hk; omega)).1).setCell (h1 b (by omega)).1 _
  · intro k hk
    by_cases e : vt'.ownBlock = some k
    · rcases hat k e with e2 | e2
      · exact .inl (by have := t2 k e2; omega)
      · exact .inr e2
    · simp only [if_neg e] at hk
      exact .inl hk
  · intro k hk
    have hlt := (h1 k (by omega)).2
    refine ⟨old k hlt (by omega) (by rintro rfl; omega), ?_⟩
    have : vt'.ownBlock ≠ some k := by
      intro e
      rcases hat k e with e2 | e2
      · have := t2 k e2; omega
      · omega
    simp only [if_neg this]
    exact hk
theorem hat_of {W : World} {v v1 : Value} (h : v1.ownBlock = v.ownBlock ∨ ∃ b, v1.ownBlock = some b ∧ W.heap.size ≤ b) : ∀ t, v1.ownBlock = some t → v.ownBlock = some t ∨ W.heap.size ≤ t := by
  intro t ht
  rcases h with e | ⟨b, e, hle⟩
  · exact .inl (e ▸ ht)
  · rw [e] at ht
    injection ht with ht
    exact .inr (by omega)
/-- The last frame is dead. -/
theorem stk_dead {base : Nat} {W : World} {g b cap : Nat} {tag : Nat → Nat} {gs : List Fr} {f : Fr} {cells : List Value} (d : Bool)
    (h : Stk base W g tag (gs ++ [f]) (.slice (some ⟨b, 0, none⟩) (gs.length + 1) cap) cells) :
    AfterV base W g tag (gs ++ [{ f with dead := d }]) (.slice (some ⟨b, 0, none⟩) (gs.length + 1) cap) (W.setCell ⟨b, gs.length * 4 + 3, none⟩ (.bool d)) := by
  obtain ⟨h1, h2, h3, h4, h5, h6⟩ := h
  have hlen : (gs ++ [f]).length = gs.length + 1 := by simp
  rw [hlen] at h5
  have hb2 : tag b = 2 := h4 b rfl
  have old : ∀ k, k ≠ b → (W.setCell ⟨b, gs.length * 4 + 3, none⟩ (.bool d)).heap[k]? = W.heap[k]? := fun k h8 => set_other k h8
  have hsz : (W.setCell ⟨b, gs.length * 4 + 3, none⟩ (.bool d)).heap.size = W.heap.size := by simp [World.setCell]
  refine ⟨tag, cells.set (gs.length * 4 + 3) (.bool d), ⟨fun k hk => by rw [hsz]; exact h1 k hk, (old g (by rintro rfl; omega)).trans h2, h3, h4, by have := loose_set h5 (gs.length * 4 + 3) (.bool d); simpa using this, ?_⟩,
    (Kept.refl W _).setCell (.inl (by show tag b ≠ 0; omega)) _, (Below.refl base W).setCell (h1 b (by omega)).1 _, (fun k hk => .inl hk), fun k hk => ⟨old k (by rintro rfl; omega), hk⟩⟩
  intro j f' hj
  rcases Nat.lt_trichotomy j gs.length with hjl | hjl | hjl
  · rw [List.getElem?_append_left hjl] at hj
    obtain ⟨B0, d0, B1, d1, vu, hf⟩ := h6 j f' (by rw [List.getElem?_append_left hjl]; exact hj)
    exact ⟨B0, d0, B1, d1, vu, hf.move (fun k hk hlt => old k (by rintro rfl; omega)) (fun k hlt => rfl) (fun i hi => by rw [List.getElem?_set_ne (by omega)])⟩
  · subst hjl
    rw [getLast_at] at hj
    injection hj with hj
    subst hj
    obtain ⟨A0, c0, A1, c1, vt, e0, e1, e2, e3, l0, r0, l1, r1, r2, t2⟩ := h6 gs.length f getLast_at
    have hin : gs.length * 4 + 3 < cells.length := by rw [h5.1]; omega
    refine ⟨A0, c0, A1, c1, vt, by rw [List.getElem?_set_ne (by omega)]; exact e0, by rw [List.getElem?_set_ne (by omega)]; exact e1, by rw [List.getElem?_set_ne (by omega)]; exact e2, List.getElem?_set_self hin, l0, ?_, l1, ?_, ?_, t2⟩
    · exact Kd.F_step r0 fun k hk hlt => old k (by rintro rfl; omega)
    · exact Kd.F_step r1 fun k hk hlt => old k (by rintro rfl; omega)
    · exact r2.move fun k hk => old k (by have := t2 k hk; rintro rfl; omega)
  · rw [List.getElem?_eq_none (by simp; omega)] at hj
    cases hj
/-- The last frame is gone. -/
theorem stk_close {base : Nat} {W : World} {g b cap : Nat} {tag : Nat → Nat} {gs : List Fr} {f : Fr} {cells : List Value}
    (h : Stk base W g tag (gs ++ [f]) (.slice (some ⟨b, 0, none⟩) (gs.length + 1) cap) cells) :
    After base W g tag gs (W.setCell ⟨g, 0, none⟩ (.slice (some ⟨b, 0, none⟩) gs.length cap)) := by
  obtain ⟨h1, h2, h3, h4, h5, h6⟩ := h
  have hlen : (gs ++ [f]).length = gs.length + 1 := by simp
  rw [hlen] at h5
  have hb2 : tag b = 2 := h4 b rfl
  have old : ∀ k, k ≠ g → (W.setCell ⟨g, 0, none⟩ (.slice (some ⟨b, 0, none⟩) gs.length cap)).heap[k]? = W.heap[k]? := fun k h8 => set_other k h8
  have hsz : (W.setCell ⟨g, 0, none⟩ (.slice (some ⟨b, 0, none⟩) gs.length cap)).heap.size = W.heap.size := by simp [World.setCell]
  have hncap : gs.length + 1 ≤ cap := (Loose.get h5).2.1
  refine ⟨.slice (some ⟨b, 0, none⟩) gs.length cap, tag, cells.take (gs.length * 4), ⟨fun k hk => by rw [hsz]; exact h1 k hk, ?_, h3, h4, ?_, ?_⟩,
    (Kept.refl W _).setCell (.inl (by show tag g ≠ 0; omega)) _, (Below.refl base W).setCell (h1 g (by omega)).1 _, (fun k hk => .inl hk), fun k hk => ⟨old k (by rintro rfl; omega), hk⟩⟩
  · have := blk_set h2 0 (.slice (some ⟨b, 0, none⟩) gs.length cap)
    exact this
  · exact (h5.cut (c' := cap) (Nat.le_succ _) (by omega) (Nat.le_refl _)).move fun k hk => old k (by injection hk with hk; subst hk; intro e; have e : b = g := e; rw [e] at hb2; omega)
  · intro j f' hj
    have hjl : j < gs.length := (List.getElem?_eq_some_iff.1 hj).1
    obtain ⟨B0, d0, B1, d1, vu, hf⟩ := h6 j f' (by rw [List.getElem?_append_left hjl]; exact hj)
    exact ⟨B0, d0, B1, d1, vu, hf.move (fun k hk hlt => old k (by rintro rfl; omega)) (fun k hlt => rfl) (fun i hi => by rw [List.getElem?_take_of_lt (by omega)])⟩
theorem Loose.F {α : Type} {enc : α → Value} {h1 : ∀ x, (enc x).oneCell' = true} {w : World} {e n c : Nat} {A : Option Addr} {xs : List α} {ok : Nat → Prop} (h : Loose w e 1 (.slice A n c) xs.length (encs enc xs))
    (hok : ∀ k, (Value.slice A n c).ownBlock = some k → ok k) : n = xs.length ∧ xs.length ≤ c ∧ Kd.F (Kd.scalar enc h1) w ok A xs.length xs := by
  refine ⟨(Loose.get h).1, (Loose.get h).2.1, fun W' hW => ?_⟩
  have h2 : Loose W' e 1 (.slice A n c) xs.length (encs enc xs) := h.move fun k hk => hW k (hok k hk) (h.lt k hk)
  obtain ⟨A', c', he, _, hC⟩ := Loose.C (h1 := h1) h2
  injection he with he
  rw [he]
  exact hC
/-- A frame more. -/
theorem stk_open {base : Nat} {W Wa w1 : World} {g : Nat} {tag : Nat → Nat} {fs : List Fr} {v v1 : Value} {cells : List Value} {A0 A1 : Option Addr} {n0 c0 n1 c1 : Nat} {l e : List Int}
    (h : Stk base W g tag fs v cells) (hWa : Below W.heap.size W Wa)
    (hl : Loose Wa 5 1 (.slice A0 n0 c0) l.length (nums .u8 l)) (bl : ∀ b, (Value.slice A0 n0 c0).ownBlock = some b → W.heap.size ≤ b)
    (he : Loose Wa 5 1 (.slice A1 n1 c1) e.length (nums .u8 e)) (be : ∀ b, (Value.slice A1 n1 c1).ownBlock = some b → W.heap.size ≤ b)
    (h1 : Loose w1 173 4 v1 (fs.length + 1) (cells ++ [.slice A0 n0 c0, .slice A1 n1 c1, .slice none 0 0, .bool false])) (hg : Wa.grownBy w1 v.ownBlock) (hat : v1.ownBlock = v.ownBlock ∨ ∃ b, v1.ownBlock = some b ∧ Wa.heap.size ≤ b) :
    After base W g tag (fs ++ [⟨l, e, [], false⟩]) (w1.setCell ⟨g, 0, none⟩ v1) := by
  obtain ⟨t1, t2, t3, t4, t5, t6⟩ := h
  have hglt := (t1 g (by omega)).2
  have hbase : base ≤ W.heap.size := by have := (t1 g (by omega)).1; omega
  have hsz : (w1.setCell ⟨g, 0, none⟩ v1).heap.size = w1.heap.size := by simp [World.setCell]
  have hle : W.heap.size ≤ Wa.heap.size := hWa.size
  have ll := hl.lt
  have le := he.lt
  have old : ∀ k, k < W.heap.size → tag k ≠ 2 → k ≠ g → (w1.setCell ⟨g, 0, none⟩ v1).heap[k]? = W.heap[k]? := fun k hk h7 h8 =>
    ((set_other k h8).trans (hg.block k (by omega) fun e => h7 (t4 k e.symm))).trans (hWa.block k hk)
  have v1k : ∀ k, v1.ownBlock = some k → tag k = 2 ∨ Wa.heap.size ≤ k := by
    intro k hk
    rcases hat with e2 | ⟨b, e2, hb⟩
    · rw [e2] at hk; exact .inl (t4 k hk)
    · rw [e2] at hk; injection hk with hk; exact .inr (by omega)
  obtain ⟨tg, htg⟩ : ∃ tg : Nat → Nat, tg = fun k => if v1.ownBlock = some k then 2 else if (Value.slice A0 n0 c0).ownBlock = some k ∨ (Value.slice A1 n1 c1).ownBlock = some k then 3 else tag k := ⟨_, rfl⟩
  have tg_old : ∀ k, k < W.heap.size → tg k = tag k := by
    intro k hk
    rw [htg]
    by_cases e2 : v1.ownBlock = some k
    · simp only [if_pos e2]
      rcases v1k k e2 with h | h <;> omega
    · have e3 : ¬ ((Value.slice A0 n0 c0).ownBlock = some k ∨ (Value.slice A1 n1 c1).ownBlock = some k) := by
        rintro (h | h)
        · have := bl k h; omega
        · have := be k h; omega
      simp only [if_neg e2, if_neg e3]
  have tg_l : ∀ k, ((Value.slice A0 n0 c0).ownBlock = some k ∨ (Value.slice A1 n1 c1).ownBlock = some k) → tg k = 3 := by
    intro k hk
    have hlo : W.heap.size ≤ k ∧ k < Wa.heap.size := by
      rcases hk with h | h
      · exact ⟨bl k h, ll k h⟩
      · exact ⟨be k h, le k h⟩
    have e2 : v1.ownBlock ≠ some k := fun h => by
      rcases v1k k h with h | h
      · have := (t1 k (by omega)).2; omega
      · omega
    rw [htg]
    simp only [if_neg e2, if_pos hk]
  have keepn : ∀ k, ((Value.slice A0 n0 c0).ownBlock = some k ∨ (Value.slice A1 n1 c1).ownBlock = some k) → (w1.setCell ⟨g, 0, none⟩ v1).heap[k]? = Wa.heap[k]? := by
    intro k hk
    have hlo : W.heap.size ≤ k ∧ k < Wa.heap.size := by
      rcases hk with h | h
      · exact ⟨bl k h, ll k h⟩
      · exact ⟨be k h, le k h⟩
    exact (set_other k (by show k ≠ g; omega)).trans (hg.block k hlo.2 fun e => by have := t4 k e.symm; have := (t1 k (by omega)).2; omega)
  refine ⟨v1, tg, cells ++ [.slice A0 n0 c0, .slice A1 n1 c1, .slice none 0 0, .bool false], ⟨?_, ?_, ?_, ?_, ?_, ?_⟩, ?_, ?_, ?_, ?_⟩
  · intro k hk
    rw [hsz]
    by_cases e2 : v1.ownBlock = some k
    · refine ⟨?_, h1.lt k e2⟩
      rcases v1k k e2 with h | h
      · exact (t1 k (by omega)).1
      · omega
    by_cases e3 : (Value.slice A0 n0 c0).ownBlock = some k ∨ (Value.slice A1 n1 c1).ownBlock = some k
    · have := hg.size
      rcases e3 with h | h
      · have := bl k h; have := ll k h; exact ⟨by omega, by omega⟩
      · have := be k h; have := le k h; exact ⟨by omega, by omega⟩
    · rw [htg] at hk
      simp only [if_neg e2, if_neg e3] at hk
      have := hg.size
      exact ⟨(t1 k hk).1, by have := (t1 k hk).2; omega⟩
  · have hbox : w1.heap[g]? = some (.cells #[v, .bool true] 139 (0, 0)) := ((hg.block g (by omega) fun e => by have := t4 g e.symm; omega).trans (hWa.block g hglt)).trans t2
    exact blk_set hbox 0 v1
  · rw [tg_old g hglt]; exact t3
  · intro b hb
    rw [htg]
    simp only [if_pos hb]
  · have hne : ∀ k, v1.ownBlock = some k → k ≠ g := by
      rintro k hk rfl
      rcases v1k k hk with h | h <;> omega
    have := h1.move (w1 := w1.setCell ⟨g, 0, none⟩ v1) fun k hk => set_other k (hne k hk)
    simpa using this
  · intro j f' hj
    rcases Nat.lt_trichotomy j fs.length with hjl | hjl | hjl
    · rw [List.getElem?_append_left hjl] at hj
      obtain ⟨B0, d0, B1, d1, vu, hf⟩ := t6 j f' hj
      exact ⟨B0, d0, B1, d1, vu, hf.move (fun k hk hlt => old k hlt (by omega) (by rintro rfl; omega)) (fun k hlt => tg_old k hlt) (fun i hi => List.getElem?_append_left (by rw [t5.1]; omega))⟩
    · subst hjl
      have hf' : f' = ⟨l, e, [], false⟩ := by simp at hj; exact hj.symm
      subst hf'
      have hc4 : cells.length = fs.length * 4 := t5.1
      have hm0 : Loose (w1.setCell ⟨g, 0, none⟩ v1) 5 1 (.slice A0 n0 c0) l.length (nums .u8 l) := hl.move fun k hk => keepn k (.inl hk)
      have hm1 : Loose (w1.setCell ⟨g, 0, none⟩ v1) 5 1 (.slice A1 n1 c1) e.length (nums .u8 e) := he.move fun k hk => keepn k (.inr hk)
      obtain ⟨q0, q1, q2⟩ := Loose.F (h1 := fun _ => rfl) (ok := fun k => tg k = 3) hm0 (fun k hk => tg_l k (.inl hk))
      obtain ⟨p0, p1, p2⟩ := Loose.F (h1 := fun _ => rfl) (ok := fun k => tg k = 3) hm1 (fun k hk => tg_l k (.inr hk))
      subst q0 p0
      refine ⟨A0, c0, A1, c1, .slice none 0 0, ?_, ?_, ?_, ?_, q1, q2, p1, p2, Loose.nil _ _ _, fun t ht => by cases ht⟩
      · rw [← hc4, List.getElem?_append_right (Nat.le_refl _), Nat.sub_self]; rfl
      · rw [← hc4, List.getElem?_append_right (by omega), show cells.length + 1 - cells.length = 1 by omega]; rfl
      · rw [← hc4, List.getElem?_append_right (by omega), show cells.length + 2 - cells.length = 2 by omega]; rfl
      · rw [← hc4, List.getElem?_append_right (by omega), show cells.length + 3 - cells.length = 3 by omega]; rfl
    · rw [List.getElem?_eq_none (by simp; omega)] at hj
      cases hj
  · refine Kept.setCell ?_ (.inl (by show tag g ≠ 0; omega)) _
    refine Kept.of_grown hg ((Kept.refl W _).below hWa) fun k hk => .inl ?_
    have := t4 k hk
    omega
  · exact (((hWa.mono hbase).trans ((Below.refl base Wa).grown hg (by omega) fun k hk => (t1 k (by have := t4 k hk; omega)).1))).setCell (t1 g (by omega)).1 _
  · intro k hk
    by_cases e2 : k < W.heap.size
    · rw [tg_old k e2] at hk
      exact .inl hk
    · exact .inr (by omega)
  · intro k hk
    have hlt := (t1 k (by omega)).2
    exact ⟨old k hlt (by omega) (by rintro rfl; omega), by rw [tg_old k hlt]; exact hk⟩
end Go.Proofs.Ytkpjdkmggbelfaa.Operand
