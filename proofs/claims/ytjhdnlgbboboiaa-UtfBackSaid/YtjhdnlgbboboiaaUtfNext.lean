/- The walk of utf.Next: it returns what a plain function over the bytes says. -/
import Derived.Test.YtjhdnlgbboboiaaUtfCount
namespace Go.Proofs.Ytjhdnlgbboboiaa.Utf
open Go.RowKit Go.Proofs.YtjhdnlgbboboiaaW.PrintWords Go.Proofs.YtjhdnlgbboboiaaW.PrintLast Go.Proofs.YtjhdnlgbboboiaaW.PrintMore Go.Proofs.Ytjhdnlgbboboiaa.Base
attribute [local go_sem] max2_int min2_int max_two min_two max_three min_three max_four min_four   -- for this text's walks alone
set_option linter.unusedVariables false
set_option linter.unusedSimpArgs false

/-- The four captured variables: the place, the rune, where it ends, whether there is one. -/
structure Four (q : Nat) (a : Int) (st : Int × Int × Bool) (w : World) : Prop where
  a0 : Cell1 w q 3 (.int .i64 a)
  a1 : Cell1 w (q + 1) 21 (.int .i32 st.1)
  a2 : Cell1 w (q + 1 + 1) 3 (.int .i64 st.2.1)
  a3 : Cell1 w (q + 1 + 1 + 1) 4 (.bool st.2.2)
theorem Four.same {q : Nat} {a : Int} {st : Int × Int × Bool} {w w' : World} (h : Four q a st w) (hk : ∀ k, k < q + 4 → w'.heap[k]? = w.heap[k]?) : Four q a st w' :=
  ⟨h.a0.same (hk _ (by omega)), h.a1.same (hk _ (by omega)), h.a2.same (hk _ (by omega)), h.a3.same (hk _ (by omega))⟩
theorem Four.put {q : Nat} {a : Int} {st : Int × Int × Bool} {w : World} (h : Four q a st w) (x y : Int) (z : Bool) : Four q a (x, y, z) (((w.setCell ⟨q + 1, 0, none⟩ (.int .i32 x)).setCell ⟨q + 1 + 1, 0, none⟩ (.int .i64 y)).setCell ⟨q + 1 + 1 + 1, 0, none⟩ (.bool z)) :=
  ⟨((h.a0.far (by omega) _).far (by omega) _).far (by omega) _, ((h.a1.s _).far (by omega) _).far (by omega) _, ((h.a2.far (by omega) _).s _).far (by omega) _, ((h.a3.far (by omega) _).far (by omega) _).s _⟩
theorem four_other {q k : Nat} (w : World) (x y z : Value) (h : k ≤ q ∨ q + 4 ≤ k) : (((w.setCell ⟨q + 1, 0, none⟩ x).setCell ⟨q + 1 + 1, 0, none⟩ y).setCell ⟨q + 1 + 1 + 1, 0, none⟩ z).heap[k]? = w.heap[k]? := by
  rw [set_other (by omega), set_other (by omega), set_other (by omega)]
theorem four_below {B q : Nat} {w W : World} (h : Below B w W) (hB : B ≤ q) (x y z : Value) : Below B w (((W.setCell ⟨q + 1, 0, none⟩ x).setCell ⟨q + 1 + 1, 0, none⟩ y).setCell ⟨q + 1 + 1 + 1, 0, none⟩ z) :=
  bset (bset (bset h (by omega) _ _) (by omega) _ _) (by omega) _ _
def NextPost (q : Nat) (a : Int) (st : Int × Int × Bool) (W : World) (e : Ending) (w' : World) : Prop := e = .returned (.bool false) ∧ Four q a st w' ∧ Below q W w' ∧ ∀ k, q + 4 ≤ k → k < W.heap.size → w'.heap[k]? = W.heap[k]?
set_option maxRecDepth 100000 in
set_option maxHeartbeats 1000000 in
theorem nextEach (q : Nat) (a : Int) (st : Int × Int × Bool) (c nx : Int) (W : World) (h : Four q a st W) :
    Calls Try.prog 41 #[.int .i32 c, .int .i64 nx, .pointer (some ⟨q, 0, none⟩), .pointer (some ⟨q + 1, 0, none⟩), .pointer (some ⟨q + 1 + 1, 0, none⟩), .pointer (some ⟨q + 1 + 1 + 1, 0, none⟩)] W (NextPost q a (c, wrap64 (a + nx), true) W) := by
  have h0 := h.a0.c
  have h1 := h.a1.c
  have h2 := h.a2.c
  have h3 := h.a3.c
  have f1 := h.a1.f
  have f2 := h.a2.f
  have f3 := h.a3.f
  have fin : ∀ w', (w' = (((W.setCell ⟨q + 1, 0, none⟩ (.int .i32 c)).setCell ⟨q + 1 + 1, 0, none⟩ (.int .i64 (wrap64 (a + nx)))).setCell ⟨q + 1 + 1 + 1, 0, none⟩ (.bool true)).drew) → NextPost q a (c, wrap64 (a + nx), true) W (.returned (.bool false)) w' := by
    rintro w' rfl
    exact ⟨rfl, (h.put _ _ _).same (fun _ _ => rfl), (four_below (Below.refl _ _) (Nat.le_refl _) _ _ _).drew, fun k hk _ => four_other W _ _ _ (.inr hk)⟩
  have FIN := Aside0.mk fin
  clear h fin
  go_enter Try.func41, Try.ntmps41
  go_wp2
  go_region
  all_goals go_wp2
  all_goals
    go_ret
    exact FIN.out _ rfl
def nextStp (a : Int) (st : Int × Int × Bool) (c nx : Int) : Int × Int × Bool := (c, wrap64 (a + nx), true)
def nextBl (st : Int × Int × Bool) (c nx : Int) : Bool := false
def nextT (s : ByteArray) (a : Int) : Int × Int × Bool := (tellL s (nextStp a) nextBl (chars s s.size 0) (0, 0, false)).2
def nextV (r : Int × Int × Bool) : Value := .tuple #[.int .i32 r.1, .int .i64 r.2.1, .bool r.2.2]
def nextF (l : List Int) (a : Int) : Int × Int × Bool := if a < 0 ∨ a ≥ l.length then (0, 0, false) else nextT (strOfNums ((l.drop a.toNat).take 5)) a
def NextEnd (w : World) (r : Int × Int × Bool) (e : Ending) (w' : World) : Prop := e = .returned (nextV r) ∧ Below w.heap.size w w'
set_option maxRecDepth 100000 in
set_option maxHeartbeats 1000000 in
theorem Next_none (A : Option Addr) (c : Nat) (l : List Int) (a : Int) (w : World) (h : a < 0 ∨ a ≥ l.length) :
    Calls Try.prog 16 #[.slice A l.length c, .int .i64 a] w (NextEnd w (nextF l a)) := by
  have e : nextF l a = (0, 0, false) := if_pos h
  rw [e]
  clear e
  by_cases c1 : a < 0
  · have d1 : decide (a < 0) = true := decide_eq_true c1
    clear h
    go_enter Try.func16, Try.ntmps16
    go_wp2
    refine bodyPost_ret (v := nextV (0, 0, false)) (by simp [results, Try.results16, go_sem, nextV]) rfl ?_
    refine ⟨rfl, ?_⟩
    repeat (first | (with_reducible exact Below.refl _ _) | (with_reducible apply below_alloc))
  · have d1 : decide (a < 0) = false := decide_eq_false c1
    have c2 : (l.length : Int) ≤ a := by omega
    have d2 : decide ((l.length : Int) ≤ a) = true := decide_eq_true c2
    clear h
    go_enter Try.func16, Try.ntmps16
    go_wp2
    refine bodyPost_ret (v := nextV (0, 0, false)) (by simp [results, Try.results16, go_sem, nextV]) rfl ?_
    refine ⟨rfl, ?_⟩
    repeat (first | (with_reducible exact Below.refl _ _) | (with_reducible apply below_alloc))
theorem alloc_other {w : World} {k : Nat} (o : Obj) (h : k < w.heap.size) : (w.alloc o).heap[k]? = w.heap[k]? := Below.heap_alloc w o k h
theorem Four.new (w : World) (a : Int) : Four w.heap.size a (0, 0, false) ((((w.alloc (.cells #[.int .i64 a] 3)).alloc (.cells #[.int .i32 0] 21)).alloc (.cells #[.int .i64 0] 3)).alloc (.cells #[.bool false] 4)) := by
  have n0 := heap_alloc_new w (.cells #[.int .i64 a] 3)
  have n1 := heap_alloc_new (w.alloc (.cells #[.int .i64 a] 3)) (.cells #[.int .i32 0] 21)
  have n2 := heap_alloc_new ((w.alloc (.cells #[.int .i64 a] 3)).alloc (.cells #[.int .i32 0] 21)) (.cells #[.int .i64 0] 3)
  have n3 := heap_alloc_new (((w.alloc (.cells #[.int .i64 a] 3)).alloc (.cells #[.int .i32 0] 21)).alloc (.cells #[.int .i64 0] 3)) (.cells #[.bool false] 4)
  simp only [World.size_alloc] at n1 n2 n3
  refine ⟨?_, ?_, ?_, n3⟩
  · exact ((alloc_other _ (by simp only [World.size_alloc]; omega)).trans ((alloc_other _ (by simp only [World.size_alloc]; omega)).trans (alloc_other _ (by simp only [World.size_alloc]; omega)))).trans n0
  · exact ((alloc_other _ (by simp only [World.size_alloc]; omega)).trans (alloc_other _ (by simp only [World.size_alloc]; omega))).trans n1
  · exact (alloc_other _ (by simp only [World.size_alloc]; omega)).trans n2
theorem four_world {w W : World} {a : Int} (hW : W = ((((w.alloc (.cells #[.int .i64 a] 3)).alloc (.cells #[.int .i32 0] 21)).alloc (.cells #[.int .i64 0] 3)).alloc (.cells #[.bool false] 4))) : Below w.heap.size w W ∧ W.heap.size = w.heap.size + 4 ∧ Four w.heap.size a (0, 0, false) W := by
  subst hW
  refine ⟨?_, by simp, Four.new w a⟩
  repeat (first | (with_reducible exact Below.refl _ _) | (with_reducible apply below_alloc))
theorem mid_C (A : Option Addr) (c : Nat) (l : List Int) (a : Int) (w : World) (a0 : 0 ≤ a) (a1 : a < l.length) (hc0 : l.length ≤ c) (hr0 : Kd.C (Kd.int .u8) w A l.length l) :
    Kd.C (Kd.int .u8) w (A.map fun x => x.add a.toNat) ((l.drop a.toNat).take 5).length ((l.drop a.toNat).take 5) := by
  have h := Kd.C_drop (c := c) hr0 (show a.toNat ≤ l.length by omega) hc0
  have hne : c ≠ a.toNat := by omega
  rw [if_neg hne] at h
  have hz : (Kd.int .u8).sz = 1 := rfl
  rw [hz, Nat.mul_one] at h
  rcases Nat.le_total 5 (l.drop a.toNat).length with h5 | h5
  · exact Kd.C_take h h5
  · rw [List.take_of_length_le h5]
    exact h
set_option maxRecDepth 100000 in
set_option maxHeartbeats 1000000 in
theorem Next_five (A : Option Addr) (c : Nat) (l : List Int) (a : Int) (w : World) (a0 : 0 ≤ a) (a1 : a < l.length) (hl : l.length ≤ 1000000) (hc0 : l.length ≤ c) (hr0 : Kd.C (Kd.int .u8) w A l.length l) (h5 : a + 5 ≤ l.length) :
    Calls Try.prog 16 #[.slice A l.length c, .int .i64 a] w (NextEnd w (nextF l a)) := by
  have e : nextF l a = nextT (strOfNums ((l.drop a.toNat).take 5)) a := if_neg (by omega)
  rw [e]
  clear e
  have hrm := mid_C A c l a w a0 a1 hc0 hr0
  obtain ⟨m, em⟩ : ∃ m, m = (l.drop a.toNat).take 5 := ⟨_, rfl⟩
  have hmm : m.length = (a + 5).toNat - a.toNat := by rw [em, List.length_take, List.length_drop]; omega
  have hml : m.length ≤ 1000000 := by rw [em, List.length_take]; omega
  rw [← em] at hrm ⊢
  clear em hr0
  obtain ⟨W, hW⟩ : ∃ W, W = ((((w.alloc (.cells #[.int .i64 a] 3)).alloc (.cells #[.int .i32 0] 21)).alloc (.cells #[.int .i64 0] 3)).alloc (.cells #[.bool false] 4)) := ⟨_, rfl⟩
  obtain ⟨hB, hsz, hF⟩ := four_world hW
  have hcv : (convert 22 9 (.slice (A.map fun x => x.add a.toNat) m.length (c - a.toNat))).run Try.prog W = .ok (.string (strOfNums m)) W := Kd.C_string Try.underlying22 Try.underlying5 Try.underlying9 (Kd.C_below hrm hB)
  have HT := tell_calls41 (Four w.heap.size a) (nextStp a) nextBl w.heap.size (strOfNums m) (0, 0, false) w.heap.size (w.heap.size + 1) (w.heap.size + 1 + 1) (w.heap.size + 1 + 1 + 1) W (by omega) (by rw [strOfNums_size]; exact hml) hF
    ⟨fun st W' W'' h hk => h.same (fun k hk' => hk k (by omega))⟩
    ⟨fun st c nx W' h _ _ _ _ => (nextEach w.heap.size a st c nx W' h).mono fun e w' ⟨he, hf, hb, hk⟩ => ⟨he, hf, hb, fun k h1 h2 => hk k (by omega) h2⟩⟩
  obtain ⟨R, hR⟩ : ∃ R, R = tellL (strOfNums m) (nextStp a) nextBl (chars (strOfNums m) (strOfNums m).size 0) (0, 0, false) := ⟨_, rfl⟩
  unfold nextT
  rw [← hR] at HT ⊢
  rw [hmm] at hcv
  rw [hW] at hcv HT
  have HTT := Aside0.mk HT
  rw [hW] at hB
  have HB := Aside0.mk hB
  clear HT hR hrm hB hF hsz hW hml hmm
  obtain ⟨ok, r1, r2, r3⟩ := R
  have d1 : decide (a < 0) = false := decide_eq_false (by omega)
  have d2 : decide ((l.length : Int) ≤ a) = false := decide_eq_false (by omega)
  have k2 : 0 ≤ a + 5 := by omega
  have k3 : a + 5 ≤ 2000000 := by omega
  have k4 : (l.length : Int) ≤ (c : Int) := by omega
  clear hl hc0
  have H5 : ¬ (l.length : Int) < a + 5 := by omega
  go_enter Try.func16, Try.ntmps16
  go_wp2_with fail
  refine HTT.out.mono ?_
  rintro e w1 ⟨rfl, hf, hb⟩
  have HF := Aside0.mk hf
  have HB1 := Aside0.mk (HB.out.trans hb)
  have c1 := hf.a1.c
  have c2 := hf.a2.c
  have c3 := hf.a3.c
  have f1 := hf.a1.f
  have f2 := hf.a2.f
  have f3 := hf.a3.f
  clear hf hb
  go_wp2
  go_region
  all_goals go_wp2
  all_goals
    have HF2 := HF.out.put r1 r2 r3
    have g1 := HF2.a1.c
    have g2 := HF2.a2.c
    have g3 := HF2.a3.c
    refine bodyPost_ret (v := nextV (r1, r2, r3)) (by simp [results, Try.results16, go_sem, g1, g2, g3, nextV]) rfl ?_
    exact ⟨rfl, (four_below HB1.out (Nat.le_refl _) _ _ _).drew⟩
set_option maxRecDepth 100000 in
set_option maxHeartbeats 1000000 in
theorem Next_end (A : Option Addr) (c : Nat) (l : List Int) (a : Int) (w : World) (a0 : 0 ≤ a) (a1 : a < l.length) (hl : l.length ≤ 1000000) (hc0 : l.length ≤ c) (hr0 : Kd.C (Kd.int .u8) w A l.length l) (h5 : a + 5 > l.length) :
    Calls Try.prog 16 #[.slice A l.length c, .int .i64 a] w (NextEnd w (nextF l a)) := by
  have e : nextF l a = nextT (strOfNums ((l.drop a.toNat).take 5)) a := if_neg (by omega)
  rw [e]
  clear e
  have hrm := mid_C A c l a w a0 a1 hc0 hr0
  obtain ⟨m, em⟩ : ∃ m, m = (l.drop a.toNat).take 5 := ⟨_, rfl⟩
  have hmm : m.length = l.length - a.toNat := by rw [em, List.length_take, List.length_drop]; omega
  have hml : m.length ≤ 1000000 := by rw [em, List.length_take]; omega
  rw [← em] at hrm ⊢
  clear em hr0
  obtain ⟨W, hW⟩ : ∃ W, W = ((((w.alloc (.cells #[.int .i64 a] 3)).alloc (.cells #[.int .i32 0] 21)).alloc (.cells #[.int .i64 0] 3)).alloc (.cells #[.bool false] 4)) := ⟨_, rfl⟩
  obtain ⟨hB, hsz, hF⟩ := four_world hW
  have hcv : (convert 22 9 (.slice (A.map fun x => x.add a.toNat) m.length (c - a.toNat))).run Try.prog W = .ok (.string (strOfNums m)) W := Kd.C_string Try.underlying22 Try.underlying5 Try.underlying9 (Kd.C_below hrm hB)
  have HT := tell_calls41 (Four w.heap.size a) (nextStp a) nextBl w.heap.size (strOfNums m) (0, 0, false) w.heap.size (w.heap.size + 1) (w.heap.size + 1 + 1) (w.heap.size + 1 + 1 + 1) W (by omega) (by rw [strOfNums_size]; exact hml) hF
    ⟨fun st W' W'' h hk => h.same (fun k hk' => hk k (by omega))⟩
    ⟨fun st c nx W' h _ _ _ _ => (nextEach w.heap.size a st c nx W' h).mono fun e w' ⟨he, hf, hb, hk⟩ => ⟨he, hf, hb, fun k h1 h2 => hk k (by omega) h2⟩⟩
  obtain ⟨R, hR⟩ : ∃ R, R = tellL (strOfNums m) (nextStp a) nextBl (chars (strOfNums m) (strOfNums m).size 0) (0, 0, false) := ⟨_, rfl⟩
  unfold nextT
  rw [← hR] at HT ⊢
  rw [hmm] at hcv
  rw [hW] at hcv HT
  have HTT := Aside0.mk HT
  rw [hW] at hB
  have HB := Aside0.mk hB
  clear HT hR hrm hB hF hsz hW hml hmm
  obtain ⟨ok, r1, r2, r3⟩ := R
  have d1 : decide (a < 0) = false := decide_eq_false (by omega)
  have d2 : decide ((l.length : Int) ≤ a) = false := decide_eq_false (by omega)
  have k2 : 0 ≤ a + 5 := by omega
  have k3 : a + 5 ≤ 2000000 := by omega
  have k4 : (l.length : Int) ≤ (c : Int) := by omega
  clear hl hc0
  have H5 : (l.length : Int) < a + 5 := by omega
  go_enter Try.func16, Try.ntmps16
  go_wp2_with fail
  refine HTT.out.mono ?_
  rintro e w1 ⟨rfl, hf, hb⟩
  have HF := Aside0.mk hf
  have HB1 := Aside0.mk (HB.out.trans hb)
  have c1 := hf.a1.c
  have c2 := hf.a2.c
  have c3 := hf.a3.c
  have f1 := hf.a1.f
  have f2 := hf.a2.f
  have f3 := hf.a3.f
  clear hf hb
  go_wp2
  go_region
  all_goals go_wp2
  all_goals
    have HF2 := HF.out.put r1 r2 r3
    have g1 := HF2.a1.c
    have g2 := HF2.a2.c
    have g3 := HF2.a3.c
    refine bodyPost_ret (v := nextV (r1, r2, r3)) (by simp [results, Try.results16, go_sem, g1, g2, g3, nextV]) rfl ?_
    exact ⟨rfl, (four_below HB1.out (Nat.le_refl _) _ _ _).drew⟩
end Go.Proofs.Ytjhdnlgbboboiaa.Utf
