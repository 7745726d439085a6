/- order.pick, Min, Max. -/
import Derived.Test.YticonaahlplbjaaGreatDoorTnOrder
namespace Go.Proofs.YticonaahlplbjaaGreatDoor.Tn
open Go.RowKit Go.Proofs.YticonaahlplbjaaGreatDoor.PTopNans Go.Proofs.YticonaahlplbjaaGreatDoorW.PrintWords Go.Proofs.YticonaahlplbjaaGreatDoorW.PrintLast Go.Proofs.YticonaahlplbjaaGreatDoorW.PrintMore
set_option linter.unusedVariables false
set_option linter.unusedSimpArgs false
theorem field46_0 (n : Bool) (k x s : Int) (W : World) : (Instr.field 46 (.agg #[.bool n, .int .i64 k, .int .i64 x, .int .u64 s]) 0).run Tryz.prog W = .ok (.bool n) W := by
  simp [Instr.field, Tryz.underlying46, go_sem]
  try rfl
theorem isnan_yes {wd : Int} (C : Fl wd) (a : Int) (w : World) (ua : u64 a) (h : isN wd a) : Calls Tryz.prog 6 #[.int .i64 wd, .int .u64 a] w fun e w' => e = .returned (.bool true) ∧ Below w.heap.size w w' := by
  refine (IsNan_calls C a w ua).mono ?_
  rintro e w' ⟨b, rfl, hi, hb⟩
  obtain rfl : b = true := hi.2 h
  exact ⟨rfl, hb⟩
theorem isnan_no {wd : Int} (C : Fl wd) (a : Int) (w : World) (ua : u64 a) (h : ¬ isN wd a) : Calls Tryz.prog 6 #[.int .i64 wd, .int .u64 a] w fun e w' => e = .returned (.bool false) ∧ Below w.heap.size w w' := by
  refine (IsNan_calls C a w ua).mono ?_
  rintro e w' ⟨b, rfl, hi, hb⟩
  have : b = false := by
    cases b
    · rfl
    · exact absurd (hi.1 rfl) h
  subst this
  exact ⟨rfl, hb⟩
set_option maxRecDepth 100000 in
set_option maxHeartbeats 4000000 in
theorem pick_calls {wd : Int} (C : Fl wd) (a b : Int) (neg first : Bool) (w : World) (ua : u64 a) (ub : u64 b) : Calls Tryz.prog 100 #[.int .i64 wd, .int .u64 a, .int .u64 b, .bool neg, .bool first] w (Ans w wd (isN wd a ∨ isN wd b)) := by
  have CA := Aside0.mk (fun W => cut_calls C.wid a W ua)
  have CB := Aside0.mk (fun W => cut_calls C.wid b W ub)
  have FLD := Aside0.mk field46_0
  have C := Aside0.mk C
  clear ua ub
  all_goals
    go_enter Tryz.func100, Tryz.ntmps100
    go_upto_region 2 with (first
      | (go_at_call_of 8 a; refine (CA.out _).mono ?_
         rintro e w1 ⟨ra, rfl, ura, ia, hb⟩
         have H1 := Aside0.mk hb
         have UA := Aside0.mk (And.intro ura ia)
         clear hb ura ia)
      | (go_at_call_of 8 b; refine (CB.out _).mono ?_
         rintro e w2 ⟨rb, rfl, urb, ib, hb⟩
         have H2 := Aside0.mk (below_then H1.out H1.out.size hb)
         have UB := Aside0.mk (And.intro urb ib)
         clear hb urb ib)
      | fail)
    have UA := Aside0.mk UA.out
    go_upto_region 4 with (first
      | (go_at_call 72; refine (known72 C.out.wid _).mono ?_; rintro e w0 ⟨rfl, rfl⟩)
      | fail)
    have CC : (isN wd a) ∨ (¬ isN wd a ∧ isN wd b) ∨ (¬ isN wd a ∧ ¬ isN wd b) := by
      by_cases h1 : isN wd a
      · exact .inl h1
      · by_cases h2 : isN wd b
        · exact .inr (.inl ⟨h1, h2⟩)
        · exact .inr (.inr ⟨h1, h2⟩)
    rcases CC with hA | ⟨hA, hB⟩ | ⟨hA, hB⟩
    · have NA := Aside0.mk (fun W => isnan_yes C.out ra W UA.out.1 (UA.out.2.2 hA))
      clear hA
      go_wp2_with (first
        | (go_at_call 6; refine (NA.out _).mono ?_
           rintro e w3 ⟨rfl, hb⟩
           have H3 := Aside0.mk (below_then H2.out H2.out.size hb)
           clear hb)
        | (go_at_call 7; refine (C.out.N _).mono ?_
           rintro e w4 ⟨rfl, hb⟩
           obtain ⟨n, hn⟩ : ∃ n, n = cN wd := ⟨_, rfl⟩
           have RR := Aside0.mk (show Good wd n ∧ (isN wd a ∨ isN wd b → n = cN wd) ∧ Below w.heap.size w w4 from ⟨by rw [hn]; exact C.out.cn, fun _ => hn, below_then H3.out H3.out.size hb⟩)
           rw [← hn]
           clear hn hb)
        | fail)
      refine bodyPost_ret (v := .int .u64 n) (by simp [results, Tryz.results100, go_sem]) rfl ?_
      exact ⟨n, rfl, RR.out⟩
    · have NA := Aside0.mk (fun W => isnan_no C.out ra W UA.out.1 (fun h => hA (UA.out.2.1 h)))
      have NB := Aside0.mk (fun W => isnan_yes C.out rb W UB.out.1 (UB.out.2.2 hB))
      clear hA hB
      go_wp2_with (first
        | (go_at_call_of 6 ra; refine (NA.out _).mono ?_
           rintro e w3 ⟨rfl, hb⟩
           have H2 := Aside0.mk (below_then H2.out H2.out.size hb)
           clear hb)
        | (go_at_call_of 6 rb; refine (NB.out _).mono ?_
           rintro e w3 ⟨rfl, hb⟩
           have H3 := Aside0.mk (below_then H2.out H2.out.size hb)
           clear hb)
        | (go_at_call 7; refine (C.out.N _).mono ?_
           rintro e w4 ⟨rfl, hb⟩
           obtain ⟨n, hn⟩ : ∃ n, n = cN wd := ⟨_, rfl⟩
           have RR := Aside0.mk (show Good wd n ∧ (isN wd a ∨ isN wd b → n = cN wd) ∧ Below w.heap.size w w4 from ⟨by rw [hn]; exact C.out.cn, fun _ => hn, below_then H3.out H3.out.size hb⟩)
           rw [← hn]
           clear hn hb)
        | fail)
      refine bodyPost_ret (v := .int .u64 n) (by simp [results, Tryz.results100, go_sem]) rfl ?_
      exact ⟨n, rfl, RR.out⟩
    · have NA := Aside0.mk (fun W => isnan_no C.out ra W UA.out.1 (fun h => hA (UA.out.2.1 h)))
      have NB := Aside0.mk (fun W => isnan_no C.out rb W UB.out.1 (fun h => hB (UB.out.2.1 h)))
      have GA := Aside0.mk (show Good wd ra from ⟨UA.out.1, .inl (fun h => hA (UA.out.2.1 h))⟩)
      have GB := Aside0.mk (show Good wd rb from ⟨UB.out.1, .inl (fun h => hB (UB.out.2.1 h))⟩)
      have NC := Aside0.mk (show ¬ (isN wd a ∨ isN wd b) from fun h => h.elim hA hB)
      clear hA hB
      cases neg <;> cases first
      all_goals
        go_wp2_with (first
          | (go_at_call_of 6 ra; refine (NA.out _).mono ?_
             rintro e w3 ⟨rfl, hb⟩
             have H2 := Aside0.mk (below_then H2.out H2.out.size hb)
             clear hb)
          | (go_at_call_of 6 rb; refine (NB.out _).mono ?_
             rintro e w3 ⟨rfl, hb⟩
             have H2 := Aside0.mk (below_then H2.out H2.out.size hb)
             clear hb)
          | (go_at_call 30; refine (Eq_calls C.out ra rb _ UA.out.1 UB.out.1).mono ?_
             rintro e w3 ⟨⟨x, rfl⟩, hb⟩
             have H2 := Aside0.mk (below_then H2.out H2.out.size hb)
             clear hb)
          | (go_at_call 23; refine (C.out.O ra _ UA.out.1).mono ?_
             rintro e w4 ⟨n1, k1, x1, s1, rfl, p1, hb⟩
             have H2 := Aside0.mk (below_then H2.out H2.out.size hb)
             have fl := FLD.out n1 k1 x1 s1
             clear hb p1)
          | fail)
        all_goals
          first
            | (refine bodyPost_ret (v := .int .u64 ra) ?hr rfl ?_
               case hr => simp [results, Tryz.results100, go_sem]; done
               exact ⟨ra, rfl, GA.out, fun h => absurd h NC.out, H2.out⟩)
            | (refine bodyPost_ret (v := .int .u64 rb) ?hr rfl ?_
               case hr => simp [results, Tryz.results100, go_sem]; done
               exact ⟨rb, rfl, GB.out, fun h => absurd h NC.out, H2.out⟩)
            | fail
set_option maxRecDepth 100000 in
set_option maxHeartbeats 4000000 in
theorem order_Min {wd : Int} (C : Fl wd) (a b : Int) (w : World) (ua : u64 a) (ub : u64 b) : Calls Tryz.prog 55 #[.int .i64 wd, .int .u64 a, .int .u64 b] w (Ans w wd (isN wd a ∨ isN wd b)) := by
  have AC := Aside0.mk (fun W => Lt_calls C a b W ua ub)
  have PC := Aside0.mk (fun x W => pick_calls C a b true x W ua ub)
  clear C ua ub
  go_enter Tryz.func55, Tryz.ntmps55
  go_wp2_with (first
    | (go_at_call 32; refine (AC.out _).mono ?_
       rintro e w1 ⟨⟨x, rfl⟩, hb⟩
       have H1 := Aside0.mk hb
       clear hb)
    | (go_at_call 100; refine (PC.out x _).mono ?_
       rintro e w2 ⟨n, rfl, g, c, hb⟩
       have RR := Aside0.mk (And.intro g (And.intro c (below_then H1.out H1.out.size hb)))
       clear g c hb)
    | fail)
  refine bodyPost_ret (v := .int .u64 n) (by simp [results, Tryz.results55, go_sem]) rfl ?_
  exact ⟨n, rfl, RR.out⟩
set_option maxRecDepth 100000 in
set_option maxHeartbeats 4000000 in
theorem order_Max {wd : Int} (C : Fl wd) (a b : Int) (w : World) (ua : u64 a) (ub : u64 b) : Calls Tryz.prog 56 #[.int .i64 wd, .int .u64 a, .int .u64 b] w (Ans w wd (isN wd a ∨ isN wd b)) := by
  have AC := Aside0.mk (fun W => Gt_calls C a b W ua ub)
  have PC := Aside0.mk (fun x W => pick_calls C a b false x W ua ub)
  clear C ua ub
  go_enter Tryz.func56, Tryz.ntmps56
  go_wp2_with (first
    | (go_at_call 33; refine (AC.out _).mono ?_
       rintro e w1 ⟨⟨x, rfl⟩, hb⟩
       have H1 := Aside0.mk hb
       clear hb)
    | (go_at_call 100; refine (PC.out x _).mono ?_
       rintro e w2 ⟨n, rfl, g, c, hb⟩
       have RR := Aside0.mk (And.intro g (And.intro c (below_then H1.out H1.out.size hb)))
       clear g c hb)
    | fail)
  refine bodyPost_ret (v := .int .u64 n) (by simp [results, Tryz.results56, go_sem]) rfl ?_
  exact ⟨n, rfl, RR.out⟩
end Go.Proofs.YticonaahlplbjaaGreatDoor.Tn
