/-
The law FnExactFloorDiv answers true for every two ints: the program's FloorDiv and the reference's return the same int.
Conditions: No condition.
-/
import Derived.Test.YtfekocllfmajkaaPFnExactFloorDivx1
namespace Go.Proofs.Ytfekocllfmajkaa.Pure
open Go.RowKit Go.Proofs.Ytfekocllfmajkaa.PFnExactFloorDiv Go.Proofs.YtfekocllfmajkaaW.PrintWords Go.Proofs.YtfekocllfmajkaaW.PrintLast Go.Proofs.YtfekocllfmajkaaW.PrintMore
theorem FnExactFloorDiv : laws_FnExactFloorDiv.Pure := by
  intro a0 a1 _ _
  have e : impl_FloorDiv.f a0 a1 = spec_FloorDiv.f a0 a1 := rfl
  have s : ∃ r, spec_FloorDiv.f a0 a1 = some r := by
    unfold spec_FloorDiv.f
    by_cases h : a1 < 1
    · rw [if_pos h]; exact ⟨_, rfl⟩
    · rw [if_neg h, if_neg (by omega)]; split <;> exact ⟨_, rfl⟩
  obtain ⟨r, hr⟩ := s
  unfold laws_FnExactFloorDiv.f
  rw [e, hr]
  simp
end Go.Proofs.Ytfekocllfmajkaa.Pure
