/- Rows that may have been cut behind, and an append to them; the worlds that keep all but some blocks. -/
import Derived.Test.YtjhdnlgbboboiaaProg
import Derived.Below
import Derived.Deep.Draws
import Derived.Deep.AppendLies
import Derived.Deep.AppendSrc
import Derived.Deep.Upon
import Derived.Maps.AppendAt
import Derived.OwnWalk
import Derived.Laws.BytesArg
import Derived.Laws.MakeOwn
import Derived.Laws.OwnMore
import Derived.Deep.OwnRows
import Derived.Tactics
import Derived.Lib.ConvBytes
import Derived.Laws.Slices
import Derived.WalkKit
import Derived.WalkSpells
import Derived.KernelRfl
import Derived.RowKit3
import Derived.Deep.LoopGhost
import Derived.Deep.QuietTactic
import Derived.BigQuiet
import Derived.WideLaws
import Derived.Deep.DeepCutAuto
import Derived.Deep.CutBlock
import Derived.Deep.RegionHeld3
import Derived.Laws.Rows
import Derived.Lib.AppendStr
import Derived.ArgAppend
import Derived.Laws.IdiomCopy
import Derived.OrdersHeld
import Derived.Laws.BitsLemmas
import Derived.RowKit
import Derived.Test.YtjhdnlgbboboiaaWWords
import Derived.Test.YtjhdnlgbboboiaaWLast
import Derived.Test.YtjhdnlgbboboiaaWTab
import Derived.Test.YtjhdnlgbboboiaaWFour
import Derived.Test.YtjhdnlgbboboiaaWQPut
import Derived.Test.YtjhdnlgbboboiaaWApart
import Derived.Test.YtjhdnlgbboboiaaWArr
import Derived.Test.YtjhdnlgbboboiaaWZeros
import Derived.Test.YtjhdnlgbboboiaaWFoot
import Derived.Test.YtjhdnlgbboboiaaWKept
import Derived.Test.YtjhdnlgbboboiaaWShare
import Derived.Test.YtjhdnlgbboboiaaWN
import Derived.Test.YtjhdnlgbboboiaaWFootNe
import Derived.Test.YtjhdnlgbboboiaaWAt
import Derived.Test.YtjhdnlgbboboiaaWEqStruct
import Derived.Test.YtjhdnlgbboboiaaWRepsOne
import Derived.Test.YtjhdnlgbboboiaaWInv
import Derived.Test.YtjhdnlgbboboiaaWInvWords
import Derived.Test.YtjhdnlgbboboiaaWGuard
import Derived.Test.YtjhdnlgbboboiaaWNEv
import Derived.Test.YtjhdnlgbboboiaaWMore
namespace Go.Proofs.Ytjhdnlgbboboiaa.Mem
open Go.RowKit Go.Proofs.YtjhdnlgbboboiaaW.PrintWords Go.Proofs.YtjhdnlgbboboiaaW.PrintLast Go.Proofs.YtjhdnlgbboboiaaW.PrintMore
set_option linter.unusedVariables false
set_option linter.unusedSimpArgs false

/-- A row's cells, as they are read. -/
def RawSrc (w : World) (size : Nat) (A : Option Addr) (n : Nat) (cells : List Value) : Prop :=
  cells.length = n * size ∧ (∀ u ∈ cells, u.oneCell' = true) ∧ (A = none → n = 0) ∧ ∀ ad, A = some ad → ∀ j u, cells[j]? = some u → w.cell? (ad.add j) = some u
theorem RawSrc.src {P : Program} {w : World} {size n c : Nat} {A : Option Addr} {cells : List Value} (h : RawSrc w size A n cells) {tx e' : TypeId} (hk : P.underlying tx = some (.slice e')) : Src P size tx (.slice A n c) n cells w := by
  obtain ⟨hl, h1, h0, hc⟩ := h
  cases A with
  | none =>
    obtain rfl := h0 rfl
    obtain rfl : cells = [] := List.eq_nil_of_length_eq_zero (by omega)
    exact Src.ofNil w hk c
  | some ad => exact Src.ofSlice w hk ad n c cells hl (hc ad rfl) h1
theorem RawSrc.below {w w1 : World} {size n : Nat} {A : Option Addr} {cells : List Value} (h : RawSrc w size A n cells) (hb : Below w.heap.size w w1) : RawSrc w1 size A n cells :=
  ⟨h.1, h.2.1, h.2.2.1, fun ad e j u hu => pw_cell_below hb (h.2.2.2 ad e j u hu)⟩
theorem raw_scalar {α : Type} {enc : α → Value} {h1 : ∀ x, (enc x).oneCell' = true} {w : World} {A : Option Addr} {n : Nat} {xs : List α} (h : (Kd.scalar enc h1).C w A n xs) : RawSrc w 1 A n (encs enc xs) := by
  obtain ⟨hn, _, hc⟩ := h
  refine ⟨by rw [encs_length, hn, Nat.mul_one], fun u hu => ?_, fun hA => ?_, fun ad e j u hu => ?_⟩
  · obtain ⟨x, _, rfl⟩ := List.mem_map.1 hu
    exact h1 x
  · rcases Nat.eq_zero_or_pos n with h0 | hp
    · exact h0
    · obtain ⟨ad, e, _⟩ := hc hp
      rw [hA] at e
      cases e
  · have hj : j < xs.length := by
      have := (List.getElem?_eq_some_iff.1 hu).1
      rwa [encs_length] at this
    obtain ⟨ad', e', hcell⟩ := hc (by omega)
    rw [e] at e'
    injection e' with e'
    subst e'
    obtain ⟨c, _, hK, hcc⟩ := hcell j _ (List.getElem?_eq_getElem hj)
    have hK' : c = [enc xs[j]] := hK
    subst hK'
    have h2 := hcc 0 _ rfl
    have h3 : enc xs[j] = u := by
      rw [encs, List.getElem?_map, List.getElem?_eq_getElem hj] at hu
      injection hu
    rw [← h3]
    simpa [Kd.scalar] using h2
/-- A row of the call's own that may end ahead of its block's end. -/
def Loose (w : World) (e size : Nat) (v : Value) (n : Nat) (cells : List Value) : Prop :=
  cells.length = n * size ∧ ((v = .slice none 0 0 ∧ n = 0) ∨ ∃ g cap cur, v = .slice (some ⟨g, 0, none⟩) n cap ∧ w.heap[g]? = some (.cells cur e (0, 0)) ∧ n ≤ cap ∧ cap ≤ maxLen ∧ cap * size ≤ cur.size ∧ cur.toList.take (n * size) = cells)
theorem Loose.nil (w : World) (e size : Nat) : Loose w e size (.slice none 0 0) 0 [] := ⟨by simp, .inl ⟨rfl, rfl⟩⟩
theorem loose_of_own {w : World} {base e size n : Nat} {v : Value} {cells : List Value} (h : w.ownsRow base e size v n cells) : Loose w e size v n cells := by
  obtain ⟨hl, h⟩ := h
  refine ⟨hl, ?_⟩
  rcases h with h | ⟨g, cap, cur, hv, _, hg, hn, hm, hs, ht⟩
  · exact .inl h
  · exact .inr ⟨g, cap, cur, hv, hg, hn, hm, by omega, ht⟩
theorem Loose.lt {w : World} {e size n : Nat} {v : Value} {cells : List Value} (h : Loose w e size v n cells) : ∀ k, v.ownBlock = some k → k < w.heap.size := by
  intro k hk
  rcases h.2 with ⟨rfl, _⟩ | ⟨g, cap, cur, rfl, hg, _⟩
  · cases hk
  · injection hk with hk
    subst hk
    exact blk_lt hg
theorem Loose.typed {w : World} {e size n : Nat} {v : Value} {cells : List Value} (h : Loose w e size v n cells) : ∀ k, v.ownBlock = some k → ∃ cs, w.heap[k]? = some (.cells cs e (0, 0)) := by
  intro k hk
  rcases h.2 with ⟨rfl, _⟩ | ⟨g, cap, cur, rfl, hg, _⟩
  · cases hk
  · injection hk with hk
    subst hk
    exact ⟨_, hg⟩
theorem Loose.move {w w1 : World} {e size n : Nat} {v : Value} {cells : List Value} (h : Loose w e size v n cells) (hm : ∀ k, v.ownBlock = some k → w1.heap[k]? = w.heap[k]?) : Loose w1 e size v n cells := by
  obtain ⟨hl, h⟩ := h
  refine ⟨hl, ?_⟩
  rcases h with h | ⟨g, cap, cur, hv, hg, r⟩
  · exact .inl h
  · exact .inr ⟨g, cap, cur, hv, (hm g (by rw [hv]; rfl)).trans hg, r⟩
theorem Loose.get {w : World} {e size n : Nat} {A : Option Addr} {c m : Nat} {cells : List Value} (h : Loose w e size (.slice A m c) n cells) : m = n ∧ n ≤ c ∧ ∀ ad, A = some ad → ∀ j u, cells[j]? = some u → w.cell? (ad.add j) = some u := by
  rcases h.2 with ⟨h2, rfl⟩ | ⟨g, cap, cur, h2, hg, hn, hm, hs, ht⟩
  · injection h2 with h2 h3 h4
    subst h2 h3 h4
    exact ⟨rfl, Nat.le_refl _, fun _ e => by cases e⟩
  · injection h2 with h2 h3 h4
    subst h2 h3 h4
    refine ⟨rfl, hn, fun ad e j u hu => ?_⟩
    injection e with e
    subst e
    rw [add_plain, blk_cell hg]
    rw [← ht, List.getElem?_take] at hu
    split at hu
    · rwa [Array.getElem?_toList] at hu
    · cases hu
/-- A loose row of scalars is read. -/
theorem Loose.C {α : Type} {enc : α → Value} {h1 : ∀ x, (enc x).oneCell' = true} {w : World} {e : Nat} {v : Value} {xs : List α} (h : Loose w e 1 v xs.length (encs enc xs)) :
    ∃ A c, v = .slice A xs.length c ∧ xs.length ≤ c ∧ (Kd.scalar enc h1).C w A xs.length xs := by
  rcases h.2 with ⟨rfl, h0⟩ | ⟨g, cap, cur, rfl, hg, hn, hm, hs, ht⟩
  · obtain rfl : xs = [] := List.eq_nil_of_length_eq_zero h0
    exact ⟨none, 0, rfl, Nat.le_refl _, Kd.C_nil _ w⟩
  · have hml : maxLen = 9223372036854775807 := rfl
    refine ⟨some ⟨g, 0, none⟩, cap, rfl, hn, rfl, by omega, fun _ => ⟨_, rfl, fun j p hj => ⟨[enc p], rfl, rfl, fun i u hu => ?_⟩⟩⟩
    cases i with
    | succ i => simp at hu
    | zero =>
      simp only [List.getElem?_cons_zero, Option.some.injEq] at hu
      subst hu
      have hjl := (List.getElem?_eq_some_iff.1 hj).1
      have : (encs enc xs)[j]? = some (enc p) := by rw [encs, List.getElem?_map, hj]; rfl
      rw [← ht, List.getElem?_take] at this
      split at this
      · show w.cell? ((⟨g, 0, none⟩ : Addr).add (j * 1 + 0)) = _
        rw [Nat.mul_one, Nat.add_zero, add_plain, blk_cell hg, ← Array.getElem?_toList]
        exact this
      · cases this
/-- Its last elements are cut off, its capacity too. -/
theorem Loose.cut {w : World} {e size n m c c' : Nat} {A : Option Addr} {cells : List Value} (h : Loose w e size (.slice A n c) n cells) (hm : m ≤ n) (hc : m ≤ c') (hc2 : c' ≤ c) : Loose w e size (.slice A m c') m (cells.take (m * size)) := by
  obtain ⟨hl, h⟩ := h
  have hms : m * size ≤ n * size := Nat.mul_le_mul_right _ hm
  refine ⟨by rw [List.length_take, hl]; omega, ?_⟩
  rcases h with ⟨h2, rfl⟩ | ⟨g, cap, cur, h2, hg, hn, hmx, hs, ht⟩
  · injection h2 with h2 h3 h4
    subst h2 h4
    obtain rfl : m = 0 := by omega
    obtain rfl : c' = 0 := by omega
    exact .inl ⟨rfl, rfl⟩
  · injection h2 with h2 h3 h4
    subst h2 h4
    refine .inr ⟨g, c', cur, rfl, hg, hc, by omega, Nat.le_trans (Nat.mul_le_mul_right _ hc2) hs, ?_⟩
    rw [← ht, List.take_take, Nat.min_eq_left hms]
section
variable {P : Program}
theorem run_loose_append (w : World) (t ty e : TypeId) (i : TypeInfo) (z : Value) (size bytes : Nat) (ht : P.underlying t = some (.slice e)) (hi : P.info? e = some i) (hz : i.zero = some z)
    (hsize : i.size = size) (hby : i.bytes = bytes) (hzs : z.cells.size = size) (hsz : 0 < size) (v : Value) (n : Nat) (cells : List Value) (hL : Loose w e size v n cells)
    (A : Option Addr) (m c : Nat) (news : List Value) (hs : RawSrc w size A m news) (h63 : n + m ≤ maxLen) (hbytes : (n + m) * bytes ≤ 140737488355328) :
    ∃ v' w', (Builtin.append_ #[t, t] ty #[v, .slice A m c]).run P w = .ok v' w' ∧ Loose w' e size v' (n + m) (cells ++ news) ∧ w.grownBy w' v.ownBlock ∧ (v'.ownBlock = v.ownBlock ∨ ∃ b, v'.ownBlock = some b ∧ w.heap.size ≤ b) := by
  have hsrc := hs.src (P := P) (c := c) ht
  have hnl := hs.1
  subst hsize
  subst hby
  have hml : maxLen = 9223372036854775807 := rfl
  have hlen : (cells ++ news).length = (n + m) * i.size := by rw [List.length_append, hL.1, hnl, Nat.add_mul]
  have grows : ∀ (base : Option Addr) (cap : Nat), cap < n + m → v = .slice base n cap → (Builtin.firstCells i.size n (.slice base n cap)).run P w.drew = .ok cells.toArray w.drew →
      ∃ v' w', (Builtin.append_ #[t, t] ty #[v, .slice A m c]).run P w = .ok v' w' ∧ Loose w' e i.size v' (n + m) (cells ++ news) ∧ w.grownBy w' v.ownBlock ∧ (v'.ownBlock = v.ownBlock ∨ ∃ b, v'.ownBlock = some b ∧ w.heap.size ≤ b) := by
    intro base cap hcap hv hold
    have hr := run_append_grow_src (P := P) w t t ty e i z ht hi hz base n cap cells hold (.slice A m c) m news hsrc hcap (by omega) (growslice_fits hcap hbytes)
    refine ⟨_, _, by rw [hv]; exact hr, ⟨hlen, .inr ⟨w.heap.size, _, _, rfl, heap_alloc_new w.drew _, grownCap_ge w (n + m) cap e, grownCap_le_maxLen w (n + m) cap e h63, ?_, ?_⟩⟩,
      ⟨rfl, rfl, rfl, by simp, fun k hk _ => Below.heap_alloc w.drew _ k hk⟩, .inr ⟨w.heap.size, rfl, Nat.le_refl _⟩⟩
    · have hge := grownCap_ge w (n + m) cap e
      simp only [Array.size_append, List.size_toArray, size_zeroCells, hzs, hlen, ← Nat.add_mul]
      apply Nat.mul_le_mul_right
      omega
    · rw [Array.toList_append, List.take_append_of_le_length (by rw [← hlen]; exact Nat.le_refl _), ← hlen]
      exact List.take_length
  by_cases hm0 : m = 0
  · subst hm0
    obtain rfl : news = [] := List.eq_nil_of_length_eq_zero (by omega)
    have hself : Loose w e i.size v (n + 0) (cells ++ []) := by rw [List.append_nil]; exact hL
    rcases hL.2 with ⟨rfl, rfl⟩ | ⟨g, cap, cur, rfl, hg, hn, hm, hss, htk⟩
    · exact ⟨_, w, run_append_nothing w t t ty e i ht hi none 0 0 (Nat.le_refl _) _ hsrc, hself, ⟨rfl, rfl, rfl, Nat.le_refl _, fun _ _ _ => rfl⟩, .inl rfl⟩
    · exact ⟨_, w, run_append_nothing w t t ty e i ht hi _ n cap hn _ hsrc, hself, ⟨rfl, rfl, rfl, Nat.le_refl _, fun _ _ _ => rfl⟩, .inl rfl⟩
  · rcases hL.2 with ⟨rfl, h0⟩ | ⟨g, cap, cur, rfl, hg, hn, hm, hss, htk⟩
    · have hc0 : cells = [] := List.eq_nil_of_length_eq_zero (by rw [hL.1, h0, Nat.zero_mul])
      exact grows none 0 (by omega) (by rw [h0]) (by rw [hc0, h0]; exact run_firstCells_none w.drew _ 0 0 0)
    · by_cases hroom : n + m ≤ cap
      · have hfit : n * i.size + news.length ≤ cur.size := by
          rw [hnl, ← Nat.add_mul]
          exact Nat.le_trans (Nat.mul_le_mul_right _ hroom) hss
        have hr := run_append_room_src (P := P) w t t ty e i ht hi g 0 n cap (.slice A m c) m news hsrc hroom
          (fun j hj => by rw [Nat.zero_add, blk_cell hg]; simp; omega) (fun j hj => blk_frozen hg _)
        simp only [Nat.zero_add] at hr
        obtain ⟨cur', h3, h4, h5⟩ := setCells_row news (n * i.size) w cur hg hfit
        obtain ⟨s1, s2, s3, s4⟩ := setCells_same g news (n * i.size) w
        refine ⟨_, _, hr, ⟨hlen, .inr ⟨g, cap, cur', rfl, h3, hroom, hm, by rw [h4]; exact hss, ?_⟩⟩,
          ⟨s1, s2, s3, by rw [s4]; exact Nat.le_refl _, fun k _ hk => setCells_far news _ k (fun he => hk (by rw [he]; rfl))⟩, .inl rfl⟩
        rw [h5, ← hlen, htk]
        exact List.take_left' rfl
      · exact grows (some ⟨g, 0, none⟩) cap (by omega) rfl (run_firstCells_some w.drew _ n ⟨g, 0, none⟩ n cap cells hL.1 (fun j u hu => by
          rw [add_plain]
          show w.cell? _ = _
          rw [blk_cell hg]
          rw [← htk, List.getElem?_take] at hu
          split at hu
          · rwa [Array.getElem?_toList] at hu
          · cases hu))
end
section
variable {P : Program} {ops : Array Oper} {rest : List Oper} {o : Oper} {a : Act} {Q : Exit → Act → World → Prop} {Kc : Act → World → Prop}
theorem loose_append {W : World} (hgd : o.guard = none) (s x : Operand) (t e : TypeId) (z : Value) (size bytes : Nat)
    (ho : o.op = .call { callee := .builtin .append, args := #[s, x], argTypes := #[t, t] })
    (ht : P.underlying t = some (.slice e)) (hinfo : (P.info? e).map (fun i => (i.zero, i.size, i.bytes)) = some (some z, size, bytes)) (hz : z.cells.size = size) (hs0 : 0 < size) (hb0 : 0 < bytes)
    (v : Value) (n : Nat) (cells : List Value) (A : Option Addr) (m c : Nat) (news : List Value) (hs : a.eval s = v) (hx : a.eval x = .slice A m c)
    (HO : Loose W e size v n cells) (HR : RawSrc W size A m news) (hl : (n + m) * bytes ≤ 140737488355328)
    (h : ∀ v1 w1, Loose w1 e size v1 (n + m) (cells ++ news) → W.grownBy w1 v.ownBlock → (v1.ownBlock = v.ownBlock ∨ ∃ b, v1.ownBlock = some b ∧ W.heap.size ≤ b) → wpList P ops Q rest (a.put o.dst v1) w1) :
    wpList P ops Q (o :: rest) a W := by
  obtain ⟨i0, hi, hzz⟩ := Option.map_eq_some_iff.1 hinfo
  simp only [Prod.mk.injEq] at hzz
  obtain ⟨hz0, hz1, hz2⟩ := hzz
  have hlen : n + m ≤ 140737488355328 := Nat.le_trans (Nat.le_mul_of_pos_right _ hb0) hl
  obtain ⟨v1, w1, hr, h1, h2, h3⟩ := run_loose_append (P := P) W t o.type e i0 z size bytes ht hi hz0 hz1 hz2 hz hs0 v n cells HO A m c news HR (by simp only [maxLen]; omega) hl
  refine wpList_plain hgd fun K hK => ?_
  unfold Oper.wp execOp
  simp only [ho, resolve, invoke, builtin, Sem.run_bind, Sem.run_pure, Result.andThen_ok, List.map_toArray, List.map_cons, List.map_nil, hs, hx, hr]
  exact hK _ _ (h v1 w1 h1 h2 h3)
theorem loose_append_step {W : World} {E : Prop} (hgd : o.guard = none) (s x : Operand) (t e : TypeId) (z : Value) (size bytes : Nat)
    (ho : o.op = .call { callee := .builtin .append, args := #[s, x], argTypes := #[t, t] })
    (ht : P.underlying t = some (.slice e)) (hinfo : (P.info? e).map (fun i => (i.zero, i.size, i.bytes)) = some (some z, size, bytes)) (hz : z.cells.size = size) (hs0 : 0 < size) (hb0 : 0 < bytes)
    (v : Value) (n : Nat) (cells : List Value) (A : Option Addr) (m c : Nat) (news : List Value) (hs : a.eval s = v) (hx : a.eval x = .slice A m c)
    (HO : Loose W e size v n cells) (HR : RawSrc W size A m news) (hl : (n + m) * bytes ≤ 140737488355328)
    (h : ∀ v1 w1, Loose w1 e size v1 (n + m) (cells ++ news) → W.grownBy w1 v.ownBlock → (v1.ownBlock = v.ownBlock ∨ ∃ b, v1.ownBlock = some b ∧ W.heap.size ≤ b) → Kc (a.put o.dst v1) w1) :
    if Region.wanted o (yielded ops a.tmps) = true then Oper.wp P o a W Kc Q else E := by
  obtain ⟨i0, hi, hzz⟩ := Option.map_eq_some_iff.1 hinfo
  simp only [Prod.mk.injEq] at hzz
  obtain ⟨hz0, hz1, hz2⟩ := hzz
  have hlen : n + m ≤ 140737488355328 := Nat.le_trans (Nat.le_mul_of_pos_right _ hb0) hl
  obtain ⟨v1, w1, hr, h1, h2, h3⟩ := run_loose_append (P := P) W t o.type e i0 z size bytes ht hi hz0 hz1 hz2 hz hs0 v n cells HO A m c news HR (by simp only [maxLen]; omega) hl
  have hw : Region.wanted o (yielded ops a.tmps) = true := by simp [Region.wanted, hgd]
  rw [if_pos hw]
  unfold Oper.wp execOp
  simp only [ho, resolve, invoke, builtin, Sem.run_bind, Sem.run_pure, Result.andThen_ok, List.map_toArray, List.map_cons, List.map_nil, hs, hx, hr]
  exact h v1 w1 h1 h2 h3
end
end Go.Proofs.Ytjhdnlgbboboiaa.Mem
