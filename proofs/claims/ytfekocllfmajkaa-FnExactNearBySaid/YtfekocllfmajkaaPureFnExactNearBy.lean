/-
The law FnExactNearBy answers true for every three ints: the program's NearBy and the reference's return the same bool.
Conditions: No condition.
-/
import Derived.Test.YtfekocllfmajkaaPFnExactNearByx1
namespace Go.Proofs.Ytfekocllfmajkaa.Pure
open Go.RowKit Go.Proofs.Ytfekocllfmajkaa.PFnExactNearBy Go.Proofs.YtfekocllfmajkaaW.PrintWords Go.Proofs.YtfekocllfmajkaaW.PrintLast Go.Proofs.YtfekocllfmajkaaW.PrintMore
theorem FnExactNearBy : laws_FnExactNearBy.Pure := by
  intro a b t _ _ _
  refine ⟨1, ?_⟩
  have wi : ∀ x : Int, -9223372036854775808 ≤ x → x ≤ 9223372036854775807 → wrap64 x = x := fun x h1 h2 => by unfold wrap64; omega
  by_cases ha : 0 ≤ a ∧ a ≤ 1000000000
  · by_cases hb : 0 ≤ b ∧ b ≤ 1000000000
    · by_cases ht : 0 ≤ t ∧ t ≤ 1000
      · have w1 := wi (a - b) (by omega) (by omega)
        have w2 := wi (b - a) (by omega) (by omega)
        have w3 := wi (-(a - b)) (by omega) (by omega)
        simp [laws_FnExactNearBy.f, spec_NearBy.f, spec_NearBy.j0, impl_NearBy.f, spec_l01Amt.f, spec_l01In.f, impl_isSize.f, impl_in.f, ha, hb, ht, w1, w2, w3, mx]
        by_cases h : a - b < 0
        · rw [if_pos h, if_pos (by omega)]
          rw [show -(a - b) = b - a from by omega]; simp
        · rw [if_neg h]
          by_cases h' : a = b
          · subst h'; simp
          · rw [if_neg (by omega)]; simp
      · simp [laws_FnExactNearBy.f, spec_NearBy.f, spec_NearBy.j0, impl_NearBy.f, spec_l01Amt.f, spec_l01In.f, impl_isSize.f, impl_in.f, ha, hb]
        by_cases h0 : 0 ≤ t
        · have : ¬ t ≤ 1000 := by omega
          simp [h0, this]
        · simp [h0]
    · by_cases h0 : 0 ≤ b
      · have : ¬ b ≤ 1000000000 := by omega
        simp [laws_FnExactNearBy.f, spec_NearBy.f, spec_NearBy.j0, impl_NearBy.f, spec_l01Amt.f, spec_l01In.f, impl_isSize.f, impl_in.f, ha, h0, this]
      · simp [laws_FnExactNearBy.f, spec_NearBy.f, spec_NearBy.j0, impl_NearBy.f, spec_l01Amt.f, spec_l01In.f, impl_isSize.f, impl_in.f, ha, h0]
  · by_cases h0 : 0 ≤ a
    · have : ¬ a ≤ 1000000000 := by omega
      simp [laws_FnExactNearBy.f, spec_NearBy.f, spec_NearBy.j0, impl_NearBy.f, spec_l01Amt.f, spec_l01In.f, impl_isSize.f, impl_in.f, h0, this]
    · simp [laws_FnExactNearBy.f, spec_NearBy.f, spec_NearBy.j0, impl_NearBy.f, spec_l01Amt.f, spec_l01In.f, impl_isSize.f, impl_in.f, h0]
end Go.Proofs.Ytfekocllfmajkaa.Pure
