/- The walk of (*leb.series).take. -/
import Derived.Test.YtjhdnlgbboboiaaBase
namespace Go.Proofs.Ytjhdnlgbboboiaa.Leb
open Go.RowKit Go.Proofs.YtjhdnlgbboboiaaW.PrintWords Go.Proofs.YtjhdnlgbboboiaaW.PrintLast Go.Proofs.YtjhdnlgbboboiaaW.PrintMore Go.Proofs.Ytjhdnlgbboboiaa.Base
set_option linter.unusedVariables false
set_option linter.unusedSimpArgs false

def Series (w : World) (g : Nat) (n hv lf : Int) : Prop := w.heap[g]? = some (.cells #[.int .u64 n, .int .i64 hv, .int .i64 lf] 75 (0, 0))
theorem Series.c0 {w : World} {g : Nat} {n hv lf : Int} (h : Series w g n hv lf) : w.cell? ⟨g, 0, none⟩ = some (.int .u64 n) := by unfold Series at h; simp [World.cell?, h]
theorem Series.c1 {w : World} {g : Nat} {n hv lf : Int} (h : Series w g n hv lf) : w.cell? ⟨g, 1, none⟩ = some (.int .i64 hv) := by unfold Series at h; simp [World.cell?, h]
theorem Series.c2 {w : World} {g : Nat} {n hv lf : Int} (h : Series w g n hv lf) : w.cell? ⟨g, 2, none⟩ = some (.int .i64 lf) := by unfold Series at h; simp [World.cell?, h]
theorem Series.fz {w : World} {g : Nat} {n hv lf : Int} (h : Series w g n hv lf) (j : Nat) : w.frozen? ⟨g, j, none⟩ = false := by unfold Series at h; simp [World.frozen?, h]
theorem Series.s0 {w : World} {g : Nat} {n hv lf : Int} (h : Series w g n hv lf) (u : Int) : Series (w.setCell ⟨g, 0, none⟩ (.int .u64 u)) g u hv lf := blk_put h 0 _ rfl
theorem Series.s1 {w : World} {g : Nat} {n hv lf : Int} (h : Series w g n hv lf) (u : Int) : Series (w.setCell ⟨g, 1, none⟩ (.int .i64 u)) g n u lf := blk_put h 1 _ rfl
theorem Series.s2 {w : World} {g : Nat} {n hv lf : Int} (h : Series w g n hv lf) (u : Int) : Series (w.setCell ⟨g, 2, none⟩ (.int .i64 u)) g n hv u := blk_put h 2 _ rfl
theorem Series.drew {w : World} {g : Nat} {n hv lf : Int} (h : Series w g n hv lf) : Series w.drew g n hv lf := h
def seriesN (n x hv : Int) : Int := bits .or .u64 n (IntKind.u64.wrap (x % 128 * 2 ^ hv.toNat))
set_option maxRecDepth 100000 in
set_option maxHeartbeats 1000000 in
theorem take_calls (g : Nat) (n hv lf x : Int) (w : World) (hs : Series w g n hv lf) (hn : 0 ≤ n) (hn1 : n < 18446744073709551616) (hx0 : 0 ≤ x) (hx1 : x < 256) (hh0 : 0 ≤ hv) (hh1 : hv < 64) (hl0 : 0 ≤ lf) (hl1 : lf ≤ 64) :
    Calls Try.prog 65 #[.pointer (some ⟨g, 0, none⟩), .int .u8 x] w fun e w' => e = .returned (.tuple #[]) ∧ Below g w w' ∧ Series w' g (seriesN n x hv) (hv + 7) (lf - 7) := by
  have a0 := hs.c0
  have a1 := hs.c1
  have a2 := hs.c2
  have b0 := hs.fz 0
  have b1 := hs.fz 1
  have b2 := hs.fz 2
  have HS := Aside0.mk hs
  have hand : bits .and .u8 x 127 = x % 128 := bits_mask .u8 8 (by decide) wraps_u8 7 (by decide) x hx0 hx1
  clear hs
  go_enter Try.func65, Try.ntmps65
  go_wp2
  go_region
  go_wp2
  go_end0
  refine ⟨rfl, ?_, ?_⟩
  · repeat (first | (with_reducible exact Below.refl _ _) | (with_reducible apply Below.drew) | (with_reducible refine bset ?_ (Nat.le_refl _) _ _))
  · exact ((HS.out.s0 _).s1 _).s2 _
end Go.Proofs.Ytjhdnlgbboboiaa.Leb
