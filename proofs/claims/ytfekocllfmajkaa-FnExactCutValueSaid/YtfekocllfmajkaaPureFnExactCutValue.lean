/-
The law FnExactCutValue answers true for every int: the program's CutValue and the reference's return the same value and the same flag.
Conditions: No condition.
-/
import Derived.Test.YtfekocllfmajkaaPFnExactCutValuex1
namespace Go.Proofs.Ytfekocllfmajkaa.Pure
open Go.RowKit Go.Proofs.Ytfekocllfmajkaa.PFnExactCutValue Go.Proofs.YtfekocllfmajkaaW.PrintWords Go.Proofs.YtfekocllfmajkaaW.PrintLast Go.Proofs.YtfekocllfmajkaaW.PrintMore
theorem FnExactCutValue : laws_FnExactCutValue.Pure := by
  intro a0 _
  unfold laws_FnExactCutValue.f spec_CutValue.f impl_CutValue.f mn mx
  by_cases h1 : a0 > 1000000000
  · rw [if_pos h1, if_neg (by omega : ¬ a0 < -1000000000), if_pos (by omega : (1000000000:Int) < a0)]
    simp; omega
  · rw [if_neg h1]
    by_cases h2 : a0 < -1000000000
    · rw [if_pos h2, if_pos h2]; simp; omega
    · rw [if_neg h2, if_neg h2, if_neg (by omega : ¬ (1000000000:Int) < a0)]
      simp
end Go.Proofs.Ytfekocllfmajkaa.Pure
