/- numeric.Kind, over all opcodes. -/
import Derived.Test.YticonaahlplbjaaGreatDoorTnKindC
namespace Go.Proofs.YticonaahlplbjaaGreatDoor.Tn
open Go.RowKit
/-- An opcode of the group of two floats' types, its place and its width. -/
def InD (op n wd : Int) : Prop := (139 ≤ op ∧ op < 153 ∧ n = op - 139 ∧ wd = 32) ∨ (153 ≤ op ∧ op < 167 ∧ n = op - 139 - 14 ∧ wd = 64)
theorem InD.io {op n wd : Int} (h : InD op n wd) : i64r op := by unfold InD at h; unfold i64r; omega
theorem InD.w {op n wd : Int} (h : InD op n wd) : wd = 32 ∨ wd = 64 := by unfold InD at h; omega
/-- A width's type of floats. -/
def fT (wd : Int) : Int := if wd = 32 then 125 else 124
theorem fT_32 : fT 32 = 125 := rfl
theorem fT_64 : fT 64 = 124 := rfl
theorem Kind_single {op n wd : Int} (h : InD op n wd) (hn : n < 7) (w : World) : Calls Tryz.prog 5 #[.int .i64 op] w fun e w' => e = .returned (.tuple #[.int .u8 (fT wd), .int .i64 1, .int .u8 (fT wd), .bool true]) ∧ Below w.heap.size w w' := by
  refine (Kind_g6 op n wd w (fun W => find_D0 op W h.io n wd h hn)).mono ?_
  rintro e w' ⟨f, rfl, h1, h2, hb⟩
  have : f = fT wd := by
    unfold fT
    split
    · exact h1 (by assumption)
    · exact h2 (by assumption)
  subst this
  exact ⟨rfl, hb⟩
theorem Kind_double {op n wd : Int} (h : InD op n wd) (hn : ¬ n < 7) (w : World) : Calls Tryz.prog 5 #[.int .i64 op] w fun e w' => e = .returned (.tuple #[.int .u8 (fT wd), .int .i64 2, .int .u8 (fT wd), .bool true]) ∧ Below w.heap.size w w' := by
  refine (Kind_g7 op n wd w (fun W => find_D1 op W h.io n wd h hn)).mono ?_
  rintro e w' ⟨f, rfl, h1, h2, hb⟩
  have : f = fT wd := by
    unfold fT
    split
    · exact h1 (by assumption)
    · exact h2 (by assumption)
  subst this
  exact ⟨rfl, hb⟩
theorem Kind_182 (w : World) : Calls Tryz.prog 5 #[.int .i64 182] w fun e w' => e = .returned (.tuple #[.int .u8 124, .int .i64 1, .int .u8 125, .bool true]) ∧ Below w.heap.size w w' := by
  refine (Kind_g8 182 15 0 w (fun i o => i = 124 ∧ o = 125) (fun W => ?_) (fun W => find_E 182 W (by unfold i64r; decide) 15 (by decide))).mono ?_
  · refine (turned_at15 W).mono ?_
    rintro e w' ⟨rfl, rfl⟩
    exact ⟨⟨_, _, rfl, rfl, rfl⟩, rfl⟩
  · rintro e w' ⟨⟨i, o, rfl, rfl, rfl⟩, hb⟩
    exact ⟨rfl, hb⟩
theorem Kind_187 (w : World) : Calls Tryz.prog 5 #[.int .i64 187] w fun e w' => e = .returned (.tuple #[.int .u8 125, .int .i64 1, .int .u8 124, .bool true]) ∧ Below w.heap.size w w' := by
  refine (Kind_g8 187 20 0 w (fun i o => i = 125 ∧ o = 124) (fun W => ?_) (fun W => find_E 187 W (by unfold i64r; decide) 20 (by decide))).mono ?_
  · refine (turned_at20 W).mono ?_
    rintro e w' ⟨rfl, rfl⟩
    exact ⟨⟨_, _, rfl, rfl, rfl⟩, rfl⟩
  · rintro e w' ⟨⟨i, o, rfl, rfl, rfl⟩, hb⟩
    exact ⟨rfl, hb⟩
/-- Every other opcode. -/
theorem Kind_rest (op : Int) (w : World) (io : i64r op) (h : op < 139 ∨ 167 ≤ op) (h1 : op ≠ 182) (h2 : op ≠ 187) : Calls Tryz.prog 5 #[.int .i64 op] w (KindP w) := by
  by_cases c1 : op < 69
  · exact Kind_g0 op 0 0 w (fun W => find_G1 op W io c1)
  by_cases c2 : op < 91
  · obtain ⟨n, wd, hh⟩ : ∃ n wd : Int, (69 ≤ op ∧ op < 80 ∧ n = op - 69 ∧ wd = 32) ∨ (80 ≤ op ∧ op < 91 ∧ n = op - 69 - 11 ∧ wd = 64) := by
      by_cases c : op < 80
      · exact ⟨op - 69, 32, .inl ⟨by omega, c, rfl, rfl⟩⟩
      · exact ⟨op - 69 - 11, 64, .inr ⟨by omega, c2, rfl, rfl⟩⟩
    by_cases c : n = 0
    · exact Kind_g1 op n wd w (fun W => find_A0 op W io n wd hh c)
    · exact Kind_g2 op n wd w (fun W => find_A1 op W io n wd hh c)
  by_cases c3 : op < 103
  · obtain ⟨n, wd, hh⟩ : ∃ n wd : Int, (91 ≤ op ∧ op < 97 ∧ n = op - 91 ∧ wd = 32) ∨ (97 ≤ op ∧ op < 103 ∧ n = op - 91 - 6 ∧ wd = 64) := by
      by_cases c : op < 97
      · exact ⟨op - 91, 32, .inl ⟨by omega, c, rfl, rfl⟩⟩
      · exact ⟨op - 91 - 6, 64, .inr ⟨by omega, c3, rfl, rfl⟩⟩
    exact Kind_g3 op n wd w (fun W => find_B op W io n wd hh)
  by_cases c4 : op < 139
  · obtain ⟨n, wd, hh⟩ : ∃ n wd : Int, (103 ≤ op ∧ op < 121 ∧ n = op - 103 ∧ wd = 32) ∨ (121 ≤ op ∧ op < 139 ∧ n = op - 103 - 18 ∧ wd = 64) := by
      by_cases c : op < 121
      · exact ⟨op - 103, 32, .inl ⟨by omega, c, rfl, rfl⟩⟩
      · exact ⟨op - 103 - 18, 64, .inr ⟨by omega, c4, rfl, rfl⟩⟩
    by_cases c : n < 3
    · exact Kind_g4 op n wd w (fun W => find_C0 op W io n wd hh c)
    · exact Kind_g5 op n wd w (fun W => find_C1 op W io n wd hh c)
  by_cases c5 : op ≤ 191
  · refine (Kind_g8 op (op - 167) 0 w NotF (fun W => turned_calls (op - 167) W (by omega)) (fun W => find_E op W io (op - 167) (by omega))).mono ?_
    rintro e w' ⟨⟨i, o, rfl, q⟩, hb⟩
    exact ⟨⟨i, 1, o, true, rfl, .inr q⟩, hb⟩
  by_cases c6 : op < 64512
  · exact Kind_g0 op 0 0 w (fun W => find_G2 op W io (by omega))
  by_cases c7 : op < 64520
  · exact Kind_g9 op (op - 64512) 0 w (fun W => find_F op W io (op - 64512) (by omega))
  · exact Kind_g0 op 0 0 w (fun W => find_G3 op W io (by omega))
end Go.Proofs.YticonaahlplbjaaGreatDoor.Tn
