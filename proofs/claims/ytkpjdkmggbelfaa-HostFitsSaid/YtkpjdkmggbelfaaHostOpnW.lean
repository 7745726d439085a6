/- What comes in is read, and what it weighs bounds how long its inner slices are. -/
import Derived.Test.YtkpjdkmggbelfaaHostOpnZ
namespace Go.Proofs.Ytkpjdkmggbelfaa.HostOpn
open Go.ChangeShapes Go.WideShapes Go.RowKit Go.Proofs.YtkpjdkmggbelfaaW.PrintWords Go.Proofs.Ytkpjdkmggbelfaa.PHostPlays
set_option linter.unusedVariables false
theorem mem_weightsAll {H : Type} {P : Program} {e : TypeId} {n : Nat} : ∀ {ds : List (DataW H)} {d : DataW H}, d ∈ ds → n ∈ d.weights P e → n ∈ DataW.weightsAll P e ds
  | d0 :: r, d, hd, hn => by
    simp only [DataW.weightsAll, List.mem_append]
    rcases List.mem_cons.1 hd with rfl | hd
    · exact .inl hn
    · exact .inr (mem_weightsAll hd hn)
def weightM (H : Type) : Meas H where
  Z t d := ∀ n ∈ d.weights Try.prog t, n ≤ reachBytes
  L e n := n * Try.prog.bytesOf e ≤ reachBytes
  zero _ := by simp
  slice := by
    intro t e elems rest ht h
    refine ⟨?_, fun x hx n hn => h n ?_⟩
    · have := h ((elems.length + rest.length) * Try.prog.bytesOf e) (by simp [DataW.weights, ht])
      exact Nat.le_trans (Nat.mul_le_mul_right _ (by omega)) this
    · simp only [DataW.weights, ht, List.mem_cons, List.mem_append]
      exact .inr (.inl (mem_weightsAll hx hn))
  agg := by
    intro t fs xs ht h i f x hf hx n hn
    refine h n ?_
    simp only [DataW.weights, ht]
    exact DataW.weights_mem_each (j := i) (t := f.type) (d := x) (by rw [List.getElem?_map]; simp [hf]) hx n hn
theorem by109 : Try.prog.bytesOf 109 = 32 := by kernel_rfl
theorem by113 : Try.prog.bytesOf 113 = 8 := by kernel_rfl
theorem by4 : Try.prog.bytesOf 4 = 1 := by kernel_rfl
theorem reach_is : reachBytes = 140737488351232 := by decide
theorem fit77 {H : Type} {x : S77} (h : zok77 (weightM H) x) : x.f0.length ≤ 4398046510976 ∧ x.f1.length ≤ 140737488351232 ∧ ∀ y ∈ x.f0, y.f1.length ≤ 17592186043904 := by
  obtain ⟨⟨h1, h2⟩, h3⟩ := h
  have e1 : x.f0.length * Try.prog.bytesOf 109 ≤ reachBytes := h1
  have e3 : x.f1.length * Try.prog.bytesOf 4 ≤ reachBytes := h3
  rw [by109, reach_is] at e1
  rw [by4, reach_is] at e3
  refine ⟨by omega, by omega, fun y hy => ?_⟩
  have e2 : y.f1.length * Try.prog.bytesOf 113 ≤ reachBytes := h2 y hy
  rw [by113, reach_is] at e2
  omega
end Go.Proofs.Ytkpjdkmggbelfaa.HostOpn
