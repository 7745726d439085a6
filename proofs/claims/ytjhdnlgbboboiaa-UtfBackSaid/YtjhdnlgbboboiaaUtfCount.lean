/- The walks of utf.Count and utf.Next: each returns what a plain function over the bytes says. -/
import Derived.Test.YtjhdnlgbboboiaaUtfTell
namespace Go.Proofs.Ytjhdnlgbboboiaa.Utf
open Go.RowKit Go.Proofs.YtjhdnlgbboboiaaW.PrintWords Go.Proofs.YtjhdnlgbboboiaaW.PrintLast Go.Proofs.YtjhdnlgbboboiaaW.PrintMore Go.Proofs.Ytjhdnlgbboboiaa.Base
set_option linter.unusedVariables false
set_option linter.unusedSimpArgs false

def Cell1 (w : World) (q : Nat) (t : TypeId) (v : Value) : Prop := w.heap[q]? = some (.cells #[v] t (0, 0))
theorem Cell1.c {w : World} {q : Nat} {t : TypeId} {v : Value} (h : Cell1 w q t v) : w.cell? ⟨q, 0, none⟩ = some v := by unfold Cell1 at h; simp [World.cell?, h]
theorem Cell1.f {w : World} {q : Nat} {t : TypeId} {v : Value} (h : Cell1 w q t v) : w.frozen? ⟨q, 0, none⟩ = false := by unfold Cell1 at h; simp [World.frozen?, h]
theorem Cell1.s {w : World} {q : Nat} {t : TypeId} {v : Value} (h : Cell1 w q t v) (u : Value) : Cell1 (w.setCell ⟨q, 0, none⟩ u) q t u := blk_put h 0 u rfl
theorem Cell1.far {w : World} {q p : Nat} {t : TypeId} {v : Value} (h : Cell1 w q t v) (hp : q ≠ p) (u : Value) : Cell1 (w.setCell ⟨p, 0, none⟩ u) q t v := blk_far h hp u
theorem Cell1.same {w w' : World} {q : Nat} {t : TypeId} {v : Value} (h : Cell1 w q t v) (he : w'.heap[q]? = w.heap[q]?) : Cell1 w' q t v := he.trans h
theorem set_other {w : World} {q k : Nat} (h : k ≠ q) (u : Value) : (w.setCell ⟨q, 0, none⟩ u).heap[k]? = w.heap[k]? := Below.heap_setCell w ⟨q, 0, none⟩ u k h
set_option maxRecDepth 100000 in
theorem countEach (q : Nat) (n c nx : Int) (W : World) (h : Cell1 W q 3 (.int .i64 n)) :
    Calls Try.prog 42 #[.int .i32 c, .int .i64 nx, .pointer (some ⟨q, 0, none⟩)] W fun e w' => e = .returned (.bool true) ∧ w' = W.setCell ⟨q, 0, none⟩ (.int .i64 (wrap64 (n + 1))) := by
  have h0 := h.c
  have h1 := h.f
  clear h
  go_enter Try.func42, Try.ntmps42
  go_wp2
  go_ret
  exact ⟨rfl, rfl⟩
def countStp (n : Int) (c nx : Int) : Int := wrap64 (n + 1)
def countBl (n : Int) (c nx : Int) : Bool := true
def countT (s : ByteArray) : Bool × Int := tellL s countStp countBl (chars s s.size 0) 0
def countV (r : Bool × Int) : Value := .tuple #[.int .i64 (if r.1 = true then r.2 else 0), .bool r.1]
set_option maxRecDepth 100000 in
set_option maxHeartbeats 1000000 in
theorem Count_calls (A : Option Addr) (c : Nat) (l : List Int) (w : World) (hl : l.length ≤ 1000000) (hr0 : Kd.C (Kd.int .u8) w A l.length l) :
    Calls Try.prog 18 #[.slice A l.length c] w fun e w' => e = .returned (countV (countT (strOfNums l))) ∧ Below w.heap.size w w' := by
  have hcv : ∀ o, (convert 22 9 (.slice A l.length c)).run Try.prog (w.alloc o) = .ok (.string (strOfNums l)) (w.alloc o) := fun o => Kd.C_string Try.underlying22 Try.underlying5 Try.underlying9 (Kd.C_below hr0 ((Below.refl w.heap.size w).alloc (Nat.le_refl _) o))
  have W1 : Cell1 (w.alloc (.cells #[.int .i64 0] 3)) w.heap.size 3 (.int .i64 0) := heap_alloc_new w _
  have HT := tell_calls42 (fun n W => Cell1 W w.heap.size 3 (.int .i64 n)) countStp countBl w.heap.size (strOfNums l) 0 w.heap.size (w.alloc (.cells #[.int .i64 0] 3)) (by simp) (by rw [strOfNums_size]; exact hl) W1
    ⟨fun st W W' h hk => h.same (hk _ (by simp))⟩
    ⟨fun st c nx W h _ _ _ _ => (countEach w.heap.size st c nx W h).mono fun e w' ⟨he, hw⟩ => by
      subst hw
      exact ⟨he, h.s _, bset (Below.refl _ _) (Nat.le_refl _) 0 _, fun k hk _ => set_other (by simp at hk; omega) _⟩⟩
  have HTT := Aside0.mk HT
  clear HT W1 hr0
  obtain ⟨R, hR⟩ : ∃ R, R = countT (strOfNums l) := ⟨_, rfl⟩
  rw [← hR]
  unfold countT at hR
  rw [← hR] at HTT
  clear hR
  obtain ⟨ok, n⟩ := R
  have HB := Aside0.mk (Below.refl w.heap.size w)
  cases ok with
  | true =>
    go_enter Try.func18, Try.ntmps18
    go_wp2_with fail
    refine HTT.out.mono ?_
    rintro e w1 ⟨rfl, hc, hb⟩
    have HC := Aside0.mk hc
    have hbb := (below_alloc (Below.refl w.heap.size w) (.cells #[.int .i64 0] 3)).trans hb
    have HB1 := Aside0.mk hbb
    have c0 := hc.c
    have c1 := hc.f
    clear hc hb hbb
    go_wp2
    have c2 := (HC.out.s (.int .i64 n)).c
    refine bodyPost_ret (v := countV (true, n)) (by simp [results, Try.results18, go_sem, c2, countV]) rfl ?_
    exact ⟨rfl, bset HB1.out (Nat.le_refl _) 0 _⟩
  | false =>
    go_enter Try.func18, Try.ntmps18
    go_wp2_with fail
    refine HTT.out.mono ?_
    rintro e w1 ⟨rfl, hc, hb⟩
    have HC := Aside0.mk hc
    have hbb := (below_alloc (Below.refl w.heap.size w) (.cells #[.int .i64 0] 3)).trans hb
    have HB1 := Aside0.mk hbb
    have c0 := hc.c
    have c1 := hc.f
    clear hc hb hbb
    go_wp2
    have c2 := (HC.out.s (.int .i64 0)).c
    refine bodyPost_ret (v := countV (false, n)) (by simp [results, Try.results18, go_sem, c2, countV]) rfl ?_
    exact ⟨rfl, bset HB1.out (Nat.le_refl _) 0 _⟩
end Go.Proofs.Ytjhdnlgbboboiaa.Utf
