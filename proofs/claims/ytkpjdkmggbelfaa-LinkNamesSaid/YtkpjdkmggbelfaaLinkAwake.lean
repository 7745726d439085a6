/- The walk of trunnionlaw29.awake: it returns true. -/
import Derived.Test.YtkpjdkmggbelfaaLinkAll
namespace Go.Proofs.Ytkpjdkmggbelfaa.Link
open Go.RowKit Go.Proofs.YtkpjdkmggbelfaaW.PrintWords Go.Proofs.YtkpjdkmggbelfaaW.PrintLast Go.Proofs.YtkpjdkmggbelfaaW.PrintMore
set_option linter.unusedVariables false
set_option linter.unusedSimpArgs false

def memV (a b : Int) : Value := .agg #[.int .i64 2, .slice none 0 0, .slice none 0 0, .int .u32 a, .int .u32 b, .bool true, .int .u8 0, .bool false]
def memX (a b : Int) : Q29.S41 := ⟨2, ⟨[], []⟩, ⟨a, b, true⟩, ⟨0, false⟩⟩
set_option maxRecDepth 100000 in
set_option maxHeartbeats 4000000 in
theorem m_calls (a b : Int) (w : World) : Calls Try.prog 49 #[.int .u32 a, .int .u32 b] w fun e w' => e = .returned (memV a b) ∧ Below w.heap.size w w' := by
  have hu41 := Try.underlying41
  have hu37 := Try.underlying37
  have HB := Aside0.mk (Below.refl w.heap.size w)
  go_enter Try.func49, Try.ntmps49
  go_wp2
  first
    | (go_ret; exact ⟨rfl, below_alloc HB.out _⟩)
    | (refine bodyPost_ret (v := memV a b) (by simp [results, Try.results49, go_sem, memV]) rfl ?_; exact ⟨rfl, below_alloc HB.out _⟩)
/-- A row of one thing, as the program lays it. -/
theorem lit_C (w : World) (x : Q29.S41) (h1 : x.f1.f0 = []) (h2 : x.f1.f1 = []) : Kd.C Q29.k41 (w.alloc (.cells #[.int .i64 x.f0, .slice none 0 0, .slice none 0 0, .int .u32 x.f2.f0, .int .u32 x.f2.f1, .bool x.f2.f2, .int .u8 x.f3.f0, .bool x.f3.f1] 41)) (some ⟨w.heap.size, 0, none⟩) [x].length [x] := by
  refine ⟨rfl, by simp, fun _ => ⟨_, rfl, fun j p hj => ?_⟩⟩
  cases j with
  | succ j => simp at hj
  | zero =>
    simp at hj
    subst hj
    have e1 : x.f1.f0.length = 0 := by rw [h1]; rfl
    have e2 : x.f1.f1.length = 0 := by rw [h2]; rfl
    have hn : ∀ W : World, Kd.C (Kd.int .u8) W none x.f1.f0.length x.f1.f0 := fun W => by rw [h1]; exact Kd.C_nil _ W
    have hn2 : ∀ W : World, Kd.C (Kd.int .u8) W none x.f1.f1.length x.f1.f1 := fun W => by rw [h2]; exact Kd.C_nil _ W
    have hk := Q29.k41_mk (w.alloc (.cells #[.int .i64 x.f0, .slice none 0 0, .slice none 0 0, .int .u32 x.f2.f0, .int .u32 x.f2.f1, .bool x.f2.f2, .int .u8 x.f3.f0, .bool x.f3.f1] 41)) x (A1 := none) (c1 := 0) (by omega) (hn _) (A2 := none) (c2 := 0) (by omega) (hn2 _)
    rw [e1, e2] at hk
    refine ⟨_, rfl, hk, fun i u hi => ?_⟩
    have hb : (w.alloc (.cells #[.int .i64 x.f0, .slice none 0 0, .slice none 0 0, .int .u32 x.f2.f0, .int .u32 x.f2.f1, .bool x.f2.f2, .int .u8 x.f3.f0, .bool x.f3.f1] 41)).heap[w.heap.size]? = some (.cells #[.int .i64 x.f0, .slice none 0 0, .slice none 0 0, .int .u32 x.f2.f0, .int .u32 x.f2.f1, .bool x.f2.f2, .int .u8 x.f3.f0, .bool x.f3.f1] 41 (0, 0)) := heap_alloc_new w _
    have ea : (⟨w.heap.size, 0, none⟩ : Addr).add (0 * 8 + i) = ⟨w.heap.size, i, none⟩ := by rw [add_plain]; simp
    show World.cell? _ ((⟨w.heap.size, 0, none⟩ : Addr).add (0 * 8 + i)) = some u
    rw [ea]
    simp only [World.cell?, hb]
    simpa using hi
set_option maxRecDepth 100000 in
set_option maxHeartbeats 800000 in
theorem awake_calls (w : World) : Calls Try.prog 12 #[] w fun e w' => e = .returned (.bool true) ∧ Below w.heap.size w w' := by
  have H1 := Aside0.mk (fun (a b : Int) (W : World) => m_calls a b W)
  have HA : ∀ W : World, Calls Try.prog 15 #[.slice (some ⟨W.heap.size, 0, none⟩) 1 1, .slice none 0 0] (W.alloc (.cells #[.int .i64 2, .slice none 0 0, .slice none 0 0, .int .u32 1, .int .u32 5, .bool true, .int .u8 0, .bool false] 41)) fun e w' => e = .returned (.tuple #[.int .i64 0, .int .i64 300]) ∧ Below W.heap.size W w' := by
    intro W
    refine (All_calls (some ⟨W.heap.size, 0, none⟩) 1 [memX 1 5] none 0 [] _ (lit_C W (memX 1 5) rfl rfl) (Kd.C_nil _ _)).mono ?_
    rintro e w' ⟨rfl, hb⟩
    exact ⟨rfl, below_then (below_alloc (Below.refl _ _) _) (by simp) hb⟩
  have HM : ∀ (a b c d : Int) (r : Bool) (W : World), matchP 2 [] [] a b true 0 false 2 [] [] c d true 0 false = r → Calls Try.prog 17 #[memV a b, memV c d] W fun e w' => e = .returned (.bool r) ∧ Below W.heap.size W w' := by
    intro a b c d r W hr
    have := Match_calls 2 none 0 [] none 0 [] a b true 0 false 2 none 0 [] none 0 [] c d true 0 false W (Kd.C_nil _ W) (Nat.le_refl _) (Kd.C_nil _ W) (Nat.le_refl _) (Kd.C_nil _ W) (Nat.le_refl _) (Kd.C_nil _ W) (Nat.le_refl _)
    rw [hr] at this
    exact this
  have H2 := Aside0.mk HA
  have H3 := Aside0.mk (fun W => HM 1 5 2 3 true W (by decide))
  have H4 := Aside0.mk (fun W => HM 1 2 2 3 false W (by decide))
  have HB0 := Aside0.mk (Below.refl w.heap.size w)
  clear HA HM
  go_enter Try.func12, Try.ntmps12
  have HB := HB0
  go_wp2_with fail
  refine (m_calls 1 5 w).mono ?_
  rintro e w1 ⟨rfl, hb⟩
  have HB1 := Aside0.mk hb
  clear hb
  simp only [memV]
  go_wp2_with fail
  refine (H2.out w1).mono ?_
  rintro e w2 ⟨rfl, hb⟩
  have HB2 := Aside0.mk (below_then HB1.out HB1.out.size hb)
  clear hb
  simp only [memV] at H3 H4
  go_wp2_with (first | (go_at_call 49; with_reducible refine (m_calls _ _ _).mono ?_; rintro e_ w_ ⟨rfl, hb⟩; have HBn := Aside0.mk (below_then HB2.out HB2.out.size hb); clear hb HB2; have HB2 := HBn; clear HBn; simp only [memV]) | (go_at_call 17; with_reducible refine (H3.out _).mono ?_; rintro e_ w_ ⟨rfl, hb⟩; have HBn := Aside0.mk (below_then HB2.out HB2.out.size hb); clear hb HB2; have HB2 := HBn; clear HBn) | (go_at_call 17; with_reducible refine (H4.out _).mono ?_; rintro e_ w_ ⟨rfl, hb⟩; have HBn := Aside0.mk (below_then HB2.out HB2.out.size hb); clear hb HB2; have HB2 := HBn; clear HBn) | fail)
  go_ret
  exact ⟨rfl, HB2.out⟩
end Go.Proofs.Ytkpjdkmggbelfaa.Link
