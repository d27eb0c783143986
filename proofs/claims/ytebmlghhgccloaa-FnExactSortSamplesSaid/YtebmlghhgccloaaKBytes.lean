/-
The order of texts as the model compares them: 'Op.bytesLess' is '<' of lists of bytes.
Conditions: none.
-/
import Derived.Test.YtebmlghhgccloaaKWMore
import Derived.Laws.Cover1
namespace Go.Proofs.Ytebmlghhgccloaa.Bytes
open Go
theorem less_iff : ∀ x y : List UInt8, (Op.bytesLess x y = true ↔ x < y)
  | [], [] => by simp [Op.bytesLess]
  | [], _ :: _ => by simp [Op.bytesLess]
  | _ :: _, [] => by simp [Op.bytesLess]
  | a :: x, b :: y => by
    simp only [Op.bytesLess, Bool.or_eq_true, Bool.and_eq_true, decide_eq_true_eq, beq_iff_eq, less_iff x y]
    exact List.cons_lt_cons_iff.symm
theorem ne_of_less {x y : List UInt8} (h : Op.bytesLess y x = true) : (x == y) = false := by
  rw [beq_eq_false_iff_ne]
  rintro rfl
  exact absurd ((less_iff _ _).1 h) (List.lt_irrefl _)
theorem eq_of_not {x y : List UInt8} (h1 : Op.bytesLess x y = false) (h2 : Op.bytesLess y x = false) : (x == y) = true := by
  rw [beq_iff_eq]
  refine List.le_antisymm (List.not_lt.1 fun h => ?_) (List.not_lt.1 fun h => ?_)
  · rw [(less_iff _ _).2 h] at h2; cases h2
  · rw [(less_iff _ _).2 h] at h1; cases h1
end Go.Proofs.Ytebmlghhgccloaa.Bytes
