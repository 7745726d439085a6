/- On a stack that is none nothing is done. -/
import Derived.Test.YtkpjdkmggbelfaaOpHas
namespace Go.Proofs.Ytkpjdkmggbelfaa.Operand
open Go.RowKit Go.Proofs.YtkpjdkmggbelfaaW.PrintWords Go.Proofs.YtkpjdkmggbelfaaW.PrintLast Go.Proofs.YtkpjdkmggbelfaaW.PrintMore Go.Proofs.Ytkpjdkmggbelfaa.Mem
set_option linter.unusedVariables false
set_option linter.unusedSimpArgs false
/-- None, or one that no call made. -/
def NoStk (W : World) (p : Option Addr) : Prop := p = none ∨ ∃ g v, p = some ⟨g, 0, none⟩ ∧ Box W g v false
theorem is_no (w : World) (p : Option Addr) (h : NoStk w p) : Calls Try.prog 71 #[.pointer p] w fun e w' => e = .returned (.bool false) ∧ w = w' := by
  rcases h with rfl | ⟨g, v, rfl, hb⟩
  · exact is_nil w
  · exact is_calls w g v false hb
theorem last_no (w : World) (p : Option Addr) (h : NoStk w p) : Calls Try.prog 73 #[.pointer p] w fun e w' => e = .returned (.pointer none) ∧ w = w' := by
  rcases h with rfl | ⟨g, v, rfl, hb⟩
  · exact last_nil w
  · exact last_unmade w g v hb
set_option maxRecDepth 100000 in
set_option maxHeartbeats 1000000 in
theorem Open_no (w : World) (p : Option Addr) (h : NoStk w p) (a b : Value) : Calls Try.prog 37 #[.pointer p, a, b] w fun e w' => e = .returned (.tuple #[]) ∧ w = w' := by
  have HN := Aside0.mk h
  clear h
  go_enter Try.func37, Try.ntmps37
  go_wp2_with ((with_reducible refine (is_no _ _ HN.out).mono ?_); rintro e w' ⟨rfl, rfl⟩)
  go_end0
  exact ⟨rfl, rfl⟩
set_option maxRecDepth 100000 in
set_option maxHeartbeats 1000000 in
theorem Push_no (w : World) (p : Option Addr) (h : NoStk w p) (a : Value) : Calls Try.prog 38 #[.pointer p, a] w fun e w' => e = .returned (.tuple #[]) ∧ w = w' := by
  have HN := Aside0.mk h
  clear h
  go_enter Try.func38, Try.ntmps38
  go_wp2_with ((with_reducible refine (last_no _ _ HN.out).mono ?_); rintro e w' ⟨rfl, rfl⟩)
  go_end0
  exact ⟨rfl, rfl⟩
set_option maxRecDepth 100000 in
set_option maxHeartbeats 1000000 in
theorem Kill_no (w : World) (p : Option Addr) (h : NoStk w p) : Calls Try.prog 42 #[.pointer p] w fun e w' => e = .returned (.tuple #[]) ∧ w = w' := by
  have HN := Aside0.mk h
  clear h
  go_enter Try.func42, Try.ntmps42
  go_wp2_with ((with_reducible refine (last_no _ _ HN.out).mono ?_); rintro e w' ⟨rfl, rfl⟩)
  go_end0
  exact ⟨rfl, rfl⟩
set_option maxRecDepth 100000 in
set_option maxHeartbeats 1000000 in
theorem Pop_no (w : World) (p : Option Addr) (h : NoStk w p) (x : Int) : Calls Try.prog 41 #[.pointer p, .int .u8 x] w fun e w' => e = .returned (.tuple #[.int .u8 0, .int .i64 1]) ∧ w = w' := by
  have HN := Aside0.mk h
  clear h
  go_enter Try.func41, Try.ntmps41
  go_wp2_with ((with_reducible refine (is_no _ _ HN.out).mono ?_); rintro e w' ⟨rfl, rfl⟩)
  go_ret2
  exact ⟨rfl, rfl⟩
set_option maxRecDepth 100000 in
set_option maxHeartbeats 1000000 in
theorem Close_no (w : World) (p : Option Addr) (h : NoStk w p) : Calls Try.prog 39 #[.pointer p] w fun e w' => e = .returned (.tuple #[.slice none 0 0, .int .i64 1]) ∧ w = w' := by
  have HN := Aside0.mk h
  clear h
  go_enter Try.func39, Try.ntmps39
  go_wp2_with ((with_reducible refine (is_no _ _ HN.out).mono ?_); rintro e w' ⟨rfl, rfl⟩)
  go_ret2
  exact ⟨rfl, rfl⟩
set_option maxRecDepth 100000 in
set_option maxHeartbeats 1000000 in
theorem Label_no (w : World) (p : Option Addr) (h : NoStk w p) (x : Int) : Calls Try.prog 48 #[.pointer p, .int .u32 x] w fun e w' => e = .returned (.tuple #[.slice none 0 0, .bool false]) ∧ w = w' := by
  have HN := Aside0.mk h
  clear h
  go_enter Try.func48, Try.ntmps48
  go_wp2_with ((with_reducible refine (is_no _ _ HN.out).mono ?_); rintro e w' ⟨rfl, rfl⟩)
  go_ret2
  exact ⟨rfl, rfl⟩
set_option maxRecDepth 100000 in
set_option maxHeartbeats 1000000 in
theorem Take_no (w : World) (p : Option Addr) (h : NoStk w p) (a : Value) : Calls Try.prog 43 #[.pointer p, a] w fun e w' => e = .returned (.int .i64 1) ∧ w = w' := by
  have HN := Aside0.mk h
  clear h
  go_enter Try.func43, Try.ntmps43
  go_wp2_with ((with_reducible refine (is_no _ _ HN.out).mono ?_); rintro e w' ⟨rfl, rfl⟩)
  go_ret
  exact ⟨rfl, rfl⟩
set_option maxRecDepth 100000 in
set_option maxHeartbeats 1000000 in
theorem Frames_no (w : World) (p : Option Addr) (h : NoStk w p) : Calls Try.prog 46 #[.pointer p] w fun e w' => e = .returned (.int .i64 0) ∧ w = w' := by
  have HN := Aside0.mk h
  clear h
  go_enter Try.func46, Try.ntmps46
  go_wp2_with ((with_reducible refine (is_no _ _ HN.out).mono ?_); rintro e w' ⟨rfl, rfl⟩)
  go_ret
  exact ⟨rfl, rfl⟩
set_option maxRecDepth 100000 in
set_option maxHeartbeats 1000000 in
theorem Lying_no (w : World) (p : Option Addr) (h : NoStk w p) : Calls Try.prog 40 #[.pointer p] w fun e w' => e = .returned (.slice none 0 0) ∧ w = w' := by
  have HN := Aside0.mk h
  clear h
  go_enter Try.func40, Try.ntmps40
  go_wp2_with ((with_reducible refine (last_no _ _ HN.out).mono ?_); rintro e w' ⟨rfl, rfl⟩)
  go_ret
  exact ⟨rfl, rfl⟩
end Go.Proofs.Ytkpjdkmggbelfaa.Operand
