/- The walk of utf.Put: it returns the bytes of the rune, or none; and the walk of the law UtfPuts. -/
import Derived.Test.YtjhdnlgbboboiaaUtfRef
import Derived.Lib.ConvBytes
namespace Go.Proofs.Ytjhdnlgbboboiaa.Utf
open Go.RowKit Go.Proofs.YtjhdnlgbboboiaaW.PrintWords Go.Proofs.YtjhdnlgbboboiaaW.PrintLast Go.Proofs.YtjhdnlgbboboiaaW.PrintMore Go.Proofs.Ytjhdnlgbboboiaa.Base Go.Proofs.Ytjhdnlgbboboiaa.Q16
set_option linter.unusedVariables false
set_option linter.unusedSimpArgs false

def badRune (c : Int) : Prop := c < 0 ∨ c > 1114111 ∨ 55296 ≤ c ∧ c ≤ 57343
theorem encL_bad {c : Int} (h : badRune c) : encL c = [] := if_pos h
theorem encL_len {c : Int} (h : ¬ badRune c) : 1 ≤ (encL c).length ∧ (encL c).length ≤ 4 := by
  unfold badRune at h
  unfold encL
  rw [if_neg h]
  repeat' split
  all_goals simp
theorem encL_ok (c : Int) : Leb.okB (encL c) := by
  unfold encL
  intro x hx
  split at hx
  · simp at hx
  · split at hx
    · simp at hx; omega
    · split at hx
      · simp at hx; omega
      · split at hx
        · simp at hx; omega
        · simp at hx; omega
theorem u8_of (n : Nat) (x : Int) (h : x = (n : Int)) : UInt8.ofNat n = UInt8.ofNat x.toNat := by rw [h, Int.toNat_natCast]
theorem encode_is {c : Int} (h : ¬ badRune c) : Utf8.encode c = strOfNums (encL c) := by
  unfold badRune at h
  have hv : Utf8.valid c = true := by
    unfold Utf8.valid
    simp
    omega
  obtain ⟨n, rfl⟩ := Int.eq_ofNat_of_zero_le (show 0 ≤ c by omega)
  have hbad : ¬ ((n : Int) < 0 ∨ (n : Int) > 1114111 ∨ 55296 ≤ (n : Int) ∧ (n : Int) ≤ 57343) := h
  by_cases c1 : n < 128
  · have e1 : encL (n : Int) = [(n : Int)] := by
      unfold encL
      rw [if_neg hbad, if_pos (show (n : Int) < 128 by omega)]
    rw [e1]
    simp only [Utf8.encode, hv, if_true, Int.toNat_natCast, c1]
    rfl
  by_cases c2 : n < 2048
  · have e1 : encL (n : Int) = [192 + (n : Int) / 64, 128 + (n : Int) % 64] := by
      unfold encL
      rw [if_neg hbad, if_neg (show ¬ (n : Int) < 128 by omega), if_pos (show (n : Int) < 2048 by omega)]
    rw [e1]
    simp only [Utf8.encode, hv, if_true, Int.toNat_natCast, c1, c2, if_false, strOfNums, List.map_cons, List.map_nil]
    rw [u8_of (192 + n / 64) (192 + (n : Int) / 64) (by omega), u8_of (128 + n % 64) (128 + (n : Int) % 64) (by omega)]
  by_cases c3 : n < 65536
  · have e1 : encL (n : Int) = [224 + (n : Int) / 4096, 128 + (n : Int) / 64 % 64, 128 + (n : Int) % 64] := by
      unfold encL
      rw [if_neg hbad, if_neg (show ¬ (n : Int) < 128 by omega), if_neg (show ¬ (n : Int) < 2048 by omega), if_pos (show (n : Int) < 65536 by omega)]
    rw [e1]
    simp only [Utf8.encode, hv, if_true, Int.toNat_natCast, c1, c2, c3, if_false, strOfNums, List.map_cons, List.map_nil]
    rw [u8_of (224 + n / 4096) (224 + (n : Int) / 4096) (by omega), u8_of (128 + n / 64 % 64) (128 + (n : Int) / 64 % 64) (by omega), u8_of (128 + n % 64) (128 + (n : Int) % 64) (by omega)]
  · have e1 : encL (n : Int) = [240 + (n : Int) / 262144, 128 + (n : Int) / 4096 % 64, 128 + (n : Int) / 64 % 64, 128 + (n : Int) % 64] := by
      unfold encL
      rw [if_neg hbad, if_neg (show ¬ (n : Int) < 128 by omega), if_neg (show ¬ (n : Int) < 2048 by omega), if_neg (show ¬ (n : Int) < 65536 by omega)]
    rw [e1]
    simp only [Utf8.encode, hv, if_true, Int.toNat_natCast, c1, c2, c3, if_false, strOfNums, List.map_cons, List.map_nil]
    rw [u8_of (240 + n / 262144) (240 + (n : Int) / 262144) (by omega), u8_of (128 + n / 4096 % 64) (128 + (n : Int) / 4096 % 64) (by omega), u8_of (128 + n / 64 % 64) (128 + (n : Int) / 64 % 64) (by omega), u8_of (128 + n % 64) (128 + (n : Int) % 64) (by omega)]
theorem bytesWorld_below (w : World) (s : ByteArray) : Below w.heap.size w (Lib.bytesWorld w 5 s) :=
  ⟨rfl, rfl, rfl, by rw [Lib.bytesWorld_size]; omega, fun k hk => Lib.bytesWorld_at_old w 5 s k hk⟩
theorem bytesWorld_C (w : World) (l : List Int) (hok : Leb.okB l) (hl : l.length ≤ 1000) : Kd.C (Kd.int .u8) (Lib.bytesWorld w 5 (strOfNums l)) (some ⟨w.heap.size, 0, none⟩) l.length l := by
  refine Kd.C_of_reads (d := (0 : Int)) (h1 := fun _ => rfl) ⟨rfl, by omega, fun _ => ⟨_, rfl, fun j hj => ?_⟩⟩
  have h := Lib.bytesWorld_cell w 5 (strOfNums l) j (by rw [strOfNums_size]; exact hj)
  have e : (⟨w.heap.size, 0, none⟩ : Addr).add j = ⟨w.heap.size, j, none⟩ := add_plain _ _
  rw [e, h]
  congr 2
  have hr := hok l[j] (List.getElem_mem hj)
  rw [strOfNums_data, List.getD_eq_getElem?_getD, List.getElem?_map, List.getElem?_eq_getElem hj, List.getD_eq_getElem?_getD, List.getElem?_eq_getElem hj]
  simp only [Option.map_some, Option.getD_some]
  rw [UInt8.toNat_ofNat']
  omega
instance (c : Int) : Decidable (badRune c) := by unfold badRune; infer_instance
def PutPost (c : Int) (w : World) (e : Ending) (w' : World) : Prop := ∃ A n, e = .returned (.tuple #[.slice A (encL c).length n, .bool (decide (¬ badRune c))]) ∧ Below w.heap.size w w' ∧ Kd.C (Kd.int .u8) w' A (encL c).length (encL c)
set_option maxRecDepth 100000 in
set_option maxHeartbeats 1000000 in
theorem Put_calls (c : Int) (w : World) : Calls Try.prog 21 #[.int .i32 c] w (PutPost c w) := by
  by_cases hb : badRune c
  · have fin : PutPost c w (.returned (.tuple #[.slice none 0 0, .bool false])) w := by
      unfold PutPost
      rw [encL_bad hb]
      exact ⟨none, 0, by rw [decide_eq_false (fun h => h hb)]; rfl, Below.refl _ _, C_nil w none⟩
    have FIN := Aside0.mk fin
    clear fin
    by_cases c1 : c < 0
    · clear hb
      go_enter Try.func21, Try.ntmps21
      go_wp2
      go_ret2
      exact FIN.out
    by_cases c2 : c > 1114111
    · clear hb
      go_enter Try.func21, Try.ntmps21
      go_wp2
      go_ret2
      exact FIN.out
    · have c3 : 55296 ≤ c := by unfold badRune at hb; omega
      have c4 : c ≤ 57343 := by unfold badRune at hb; omega
      clear hb
      go_enter Try.func21, Try.ntmps21
      go_wp2
      go_ret2
      exact FIN.out
  · have hcv : (convert 9 22 (.string (Utf8.encode c))).run Try.prog w = .ok (.slice (some ⟨w.heap.size, 0, none⟩) (strOfNums (encL c)).size (grownCap w (strOfNums (encL c)).size 0 5)) (Lib.bytesWorld w 5 (strOfNums (encL c))) := by
      rw [encode_is hb]
      exact Lib.run_convert_string_bytes w 9 22 5 _ Try.underlying9 Try.underlying22 Try.underlying5
    rw [strOfNums_size] at hcv
    have hlen := encL_len hb
    have fin : ∀ n, PutPost c w (.returned (.tuple #[.slice (some ⟨w.heap.size, 0, none⟩) (encL c).length n, .bool true])) (Lib.bytesWorld w 5 (strOfNums (encL c))) := fun n =>
      ⟨_, n, by rw [decide_eq_true hb], bytesWorld_below w _, bytesWorld_C w (encL c) (encL_ok c) (by omega)⟩
    have FIN := Aside0.mk fin
    obtain ⟨W, hW⟩ : ∃ W, W = Lib.bytesWorld w 5 (strOfNums (encL c)) := ⟨_, rfl⟩
    rw [← hW] at hcv FIN
    clear fin hW hlen
    unfold badRune at hb
    by_cases c1 : c < 55296
    · have c2 : 0 ≤ c := by omega
      clear hb
      go_enter Try.func21, Try.ntmps21
      go_wp2
      go_ret2
      exact FIN.out _
    · have c2 : 57343 < c := by omega
      have c3 : c ≤ 1114111 := by omega
      have c4 : 55296 ≤ c := by omega
      have c5 : 0 ≤ c := by omega
      clear hb
      go_enter Try.func21, Try.ntmps21
      go_wp2
      go_ret2
      exact FIN.out _
end Go.Proofs.Ytjhdnlgbboboiaa.Utf
