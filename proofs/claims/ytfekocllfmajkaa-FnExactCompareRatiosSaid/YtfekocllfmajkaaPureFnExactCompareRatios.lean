/-
The law FnExactCompareRatios answers true for every four ints: the program's CompareRatios and the reference's return the same int.
Conditions: No condition.
-/
import Derived.Test.YtfekocllfmajkaaPFnExactCompareRatiosx1
namespace Go.Proofs.Ytfekocllfmajkaa.Pure
open Go.RowKit Go.Proofs.Ytfekocllfmajkaa.PFnExactCompareRatios Go.Proofs.YtfekocllfmajkaaW.PrintWords Go.Proofs.YtfekocllfmajkaaW.PrintLast Go.Proofs.YtfekocllfmajkaaW.PrintMore
namespace FnExactCompareRatiosP
theorem amt (a : Int) : spec_l01Amt.f a = some (decide (0 ≤ a ∧ a ≤ 1000000000)) := by
  unfold spec_l01Amt.f spec_l01In.f
  by_cases h : 0 ≤ a <;> simp [h]
theorem partv (a : Int) : spec_l01In.f a 1 1000000000 = some (decide (1 ≤ a ∧ a ≤ 1000000000)) := by
  unfold spec_l01In.f
  by_cases h : 1 ≤ a <;> simp [h]
theorem amt' (a : Int) : impl_isSize.f a = some (decide (0 ≤ a ∧ a ≤ 1000000000)) := by
  unfold impl_isSize.f impl_in.f
  by_cases h : 0 ≤ a <;> simp [h]
theorem partv' (a : Int) : impl_isPart.f a = some (decide (1 ≤ a ∧ a ≤ 1000000000)) := by
  unfold impl_isPart.f impl_in.f
  by_cases h : 1 ≤ a <;> simp [h]
theorem cmp_ (a b : Int) : cmp_Compare_int.f a b = some (if a < b then -1 else if a > b then 1 else 0) := by
  unfold cmp_Compare_int.f cmp_isNaN_int.f
  by_cases h : a < b <;> by_cases h' : a > b <;> simp [h, h']
end FnExactCompareRatiosP
open FnExactCompareRatiosP
theorem FnExactCompareRatios : laws_FnExactCompareRatios.Pure := by
  intro a b c d _ _ _ _
  refine ⟨1, ?_⟩
  unfold laws_FnExactCompareRatios.f spec_CompareRatios.f impl_CompareRatios.f
  rw [amt, amt', amt, amt', partv, partv', partv, partv', cmp_]
  by_cases ha : 0 ≤ a ∧ a ≤ 1000000000 <;> by_cases hc : 0 ≤ c ∧ c ≤ 1000000000 <;> by_cases hb : 1 ≤ b ∧ b ≤ 1000000000 <;> by_cases hd : 1 ≤ d ∧ d ≤ 1000000000 <;>
    simp [ha, hb, hc, hd, spec_CompareRatios.j0]
  by_cases h : wrap64 (a * d) < wrap64 (c * b)
  · simp [h]
  · by_cases h' : wrap64 (c * b) < wrap64 (a * d) <;> simp [h, h']
end Go.Proofs.Ytfekocllfmajkaa.Pure
