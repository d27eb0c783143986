/-
The law FnExactMulDiv answers true for every three ints and a bool: the program's MulDiv and the reference's return the same int and the same bool.
Conditions: No condition.
-/
import Derived.Test.YtfekocllfmajkaaPFnExactMulDivx1
namespace Go.Proofs.Ytfekocllfmajkaa.Pure
open Go.RowKit Go.Proofs.Ytfekocllfmajkaa.PFnExactMulDiv Go.Proofs.YtfekocllfmajkaaW.PrintWords Go.Proofs.YtfekocllfmajkaaW.PrintLast Go.Proofs.YtfekocllfmajkaaW.PrintMore
namespace FnExactMulDivP
theorem amt (a : Int) : spec_l01Amt.f a = some (decide (0 ≤ a ∧ a ≤ 1000000000)) := by
  unfold spec_l01Amt.f spec_l01In.f
  by_cases h : 0 ≤ a <;> simp [h]
theorem partv (a : Int) : spec_l01In.f a 1 1000000000 = some (decide (1 ≤ a ∧ a ≤ 1000000000)) := by
  unfold spec_l01In.f
  by_cases h : 1 ≤ a <;> simp [h]
theorem amt' (a : Int) : impl_isSize.f a = some (decide (0 ≤ a ∧ a ≤ 1000000000)) := by
  unfold impl_isSize.f impl_in.f
  by_cases h : 0 ≤ a <;> simp [h]
theorem partv' (a : Int) : impl_isPart.f a = some (decide (1 ≤ a ∧ a ≤ 1000000000)) := by
  unfold impl_isPart.f impl_in.f
  by_cases h : 1 ≤ a <;> simp [h]
theorem fl (a b : Int) : ∃ r, spec_FloorDiv.f a b = some r ∧ impl_FloorDiv.f a b = some r := by
  have e : impl_FloorDiv.f a b = spec_FloorDiv.f a b := rfl
  rw [e]
  unfold spec_FloorDiv.f
  by_cases h : b < 1
  · rw [if_pos h]; exact ⟨_, rfl, rfl⟩
  · rw [if_neg h, if_neg (by omega)]; split <;> exact ⟨_, rfl, rfl⟩
theorem ce (a b : Int) : ∃ r, spec_CeilDiv.f a b = some r ∧ impl_CeilDiv.f a b = some r := by
  have e : impl_CeilDiv.f a b = spec_CeilDiv.f a b := rfl
  rw [e]
  unfold spec_CeilDiv.f
  by_cases h : b < 1
  · rw [if_pos h]; exact ⟨_, rfl, rfl⟩
  · rw [if_neg h, if_neg (by omega)]; split <;> exact ⟨_, rfl, rfl⟩
end FnExactMulDivP
open FnExactMulDivP
theorem FnExactMulDiv : laws_FnExactMulDiv.Pure := by
  intro a b c up _ _ _
  refine ⟨1, ?_⟩
  obtain ⟨r, h1, h2⟩ := fl (wrap64 (a * b)) c
  obtain ⟨q, h3, h4⟩ := ce (wrap64 (a * b)) c
  unfold laws_FnExactMulDiv.f spec_MulDiv.f impl_MulDiv.f
  rw [amt, amt', amt, amt', partv, partv']
  by_cases ha : 0 ≤ a ∧ a ≤ 1000000000 <;> by_cases hc : 1 ≤ c ∧ c ≤ 1000000000 <;> by_cases hb : 0 ≤ b ∧ b ≤ 1000000000 <;>
    simp [ha, hb, hc, spec_MulDiv.j0, impl_MulDiv.j0, h1, h2, h3, h4]
  cases up
  · by_cases h : 1000000000 < r <;> simp [h]
  · by_cases h : 1000000000 < q <;> simp [h]
end Go.Proofs.Ytfekocllfmajkaa.Pure
