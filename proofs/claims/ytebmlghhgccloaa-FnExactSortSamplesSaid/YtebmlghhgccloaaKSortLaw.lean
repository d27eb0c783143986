/-
Sorting by insertion of samples: a strict weak order, sorted neighbours put together.
Conditions: none.
-/
import Derived.Test.YtebmlghhgccloaaKQSx0
import Derived.Test.YtebmlghhgccloaaKSortRef
namespace Go.Proofs.Ytebmlghhgccloaa.SortLaw
open Go Go.RowKit Go.Proofs.Ytebmlghhgccloaa.QS Go.Proofs.Ytebmlghhgccloaa.SortRef Go.Proofs.YtebmlghhgccloaaW.PrintWords Go.Proofs.YtebmlghhgccloaaW.PrintLast Go.Proofs.YtebmlghhgccloaaW.PrintMore
/-! The order of samples: a strict weak order; sorting by insertion. -/
theorem nt_l {a b c : List UInt8} (h1 : ¬ a < b) (h2 : ¬ b < c) : ¬ a < c :=
  List.not_lt.2 (List.le_trans (List.not_lt.1 h2) (List.not_lt.1 h1))
theorem eq_l {a b : List UInt8} (h1 : ¬ a < b) (h2 : ¬ b < a) : a = b :=
  List.le_antisymm (List.not_lt.1 h2) (List.not_lt.1 h1)
theorem nt {x y z : S60} (h1 : aheadB x y = false) (h2 : aheadB y z = false) : aheadB x z = false := by
  unfold aheadB at h1 h2 ⊢
  generalize x.f0.data.toList = p at *
  generalize y.f0.data.toList = q at *
  generalize z.f0.data.toList = s at *
  generalize x.f1.data.toList = p' at *
  generalize y.f1.data.toList = q' at *
  generalize z.f1.data.toList = s' at *
  by_cases e1 : p = q
  · subst e1
    rw [if_pos rfl] at h1
    by_cases e2 : p = s
    · subst e2
      rw [if_pos rfl] at h2 ⊢
      by_cases e3 : p' = q'
      · subst e3
        rw [if_pos rfl] at h1
        by_cases e4 : p' = s'
        · rw [if_pos e4] at h2 ⊢
          simp only [decide_eq_false_iff_not] at h1 h2 ⊢
          omega
        · rw [if_neg e4] at h2 ⊢; exact h2
      · rw [if_neg e3] at h1
        by_cases e4 : q' = s'
        · subst e4; rw [if_neg e3]; exact h1
        · rw [if_neg e4] at h2
          simp only [decide_eq_false_iff_not] at h1 h2
          by_cases e5 : p' = s'
          · subst e5; exact absurd (eq_l h1 h2) e3
          · rw [if_neg e5, decide_eq_false_iff_not]; exact nt_l h1 h2
    · rw [if_neg e2] at h2 ⊢; exact h2
  · rw [if_neg e1] at h1
    by_cases e2 : q = s
    · subst e2; rw [if_neg e1]; exact h1
    · rw [if_neg e2] at h2
      simp only [decide_eq_false_iff_not] at h1 h2
      by_cases e3 : p = s
      · subst e3; exact absurd (eq_l h1 h2) e1
      · rw [if_neg e3, decide_eq_false_iff_not]; exact nt_l h1 h2
theorem asym {x y : S60} (h : aheadB x y = true) : aheadB y x = false := by
  unfold aheadB at h ⊢
  by_cases e1 : x.f0.data.toList = y.f0.data.toList
  · rw [if_pos e1] at h; rw [if_pos e1.symm]
    by_cases e2 : x.f1.data.toList = y.f1.data.toList
    · rw [if_pos e2] at h; rw [if_pos e2.symm]
      simp only [decide_eq_true_eq] at h; simp only [decide_eq_false_iff_not]; omega
    · rw [if_neg e2] at h; rw [if_neg (fun e => e2 e.symm), decide_eq_false_iff_not]
      exact fun h' => absurd (List.lt_trans (of_decide_eq_true h) h') (List.lt_irrefl _)
  · rw [if_neg e1] at h; rw [if_neg (fun e => e1 e.symm), decide_eq_false_iff_not]
    exact fun h' => absurd (List.lt_trans (of_decide_eq_true h) h') (List.lt_irrefl _)
theorem tr {x y z : S60} (h1 : aheadB x y = true) (h2 : aheadB y z = true) : aheadB x z = true := by
  cases h : aheadB x z
  · rw [nt h (asym h2)] at h1; cases h1
  · rfl
theorem down {x y z : S60} (h1 : aheadB x y = true) (h2 : aheadB z y = false) : aheadB x z = true := by
  cases h : aheadB x z
  · rw [nt h h2] at h1; cases h1
  · rfl
def Sorted (l : List S60) : Prop := l.Pairwise fun u v => aheadB v u = false
theorem ins_left (v : S60) : ∀ (M R : List S60), (∀ u ∈ R, aheadB v u = true) → ins v (M ++ R) = ins v M ++ R
  | [], [], _ => rfl
  | [], u :: R, h => by
    have e : ins v (u :: R) = v :: u :: R := by rw [ins, if_pos (h u (by simp))]
    exact e
  | m :: M, R, h => by
    show ins v (m :: (M ++ R)) = ins v (m :: M) ++ R
    rw [ins, ins]
    split
    · rfl
    · rw [ins_left v M R h]; rfl
theorem ins_right (v : S60) : ∀ (M R : List S60), (∀ u ∈ M, aheadB v u = false) → ins v (M ++ R) = M ++ ins v R
  | [], _, _ => rfl
  | m :: M, R, h => by
    show ins v (m :: (M ++ R)) = m :: (M ++ ins v R)
    rw [ins, if_neg (by rw [h m (by simp)]; simp), ins_right v M R (fun u hu => h u (by simp [hu]))]
theorem isort_append (U V o : List S60) : isort (U ++ V) o = isort V (isort U o) := List.foldl_append
theorem isort_left : ∀ (V M R : List S60), (∀ v ∈ V, ∀ u ∈ R, aheadB v u = true) → isort V (M ++ R) = isort V M ++ R
  | [], _, _, _ => rfl
  | v :: V, M, R, h => by
    show isort V (ins v (M ++ R)) = isort V (ins v M) ++ R
    rw [ins_left v M R (h v (by simp)), isort_left V (ins v M) R (fun w hw => h w (by simp [hw]))]
theorem isort_right : ∀ (V M R : List S60), (∀ v ∈ V, ∀ u ∈ M, aheadB v u = false) → isort V (M ++ R) = M ++ isort V R
  | [], _, _, _ => rfl
  | v :: V, M, R, h => by
    show isort V (ins v (M ++ R)) = M ++ isort V (ins v R)
    rw [ins_right v M R (h v (by simp)), isort_right V M (ins v R) (fun w hw => h w (by simp [hw]))]
theorem isort_mem (V U : List S60) (z : S60) : z ∈ isort V U ↔ (z ∈ V ∨ z ∈ U) := by
  rw [(isort_perm V U).mem_iff, List.mem_append]
theorem isort_length (V U : List S60) : (isort V U).length = V.length + U.length := by
  rw [(isort_perm V U).length_eq, List.length_append]
theorem ins_sorted (x : S60) : ∀ o, Sorted o → Sorted (ins x o)
  | [], _ => List.pairwise_singleton _ _
  | y :: r, h => by
    have h' := List.pairwise_cons.1 h
    rw [ins]
    cases c : aheadB x y
    · rw [if_neg (by simp)]
      refine List.pairwise_cons.2 ⟨fun z hz => ?_, ins_sorted x r h'.2⟩
      rcases List.mem_cons.1 ((ins_perm x r).mem_iff.1 hz) with rfl | hz
      · exact c
      · exact h'.1 z hz
    · rw [if_pos rfl]
      refine List.pairwise_cons.2 ⟨fun z hz => ?_, h⟩
      rcases List.mem_cons.1 hz with rfl | hz
      · exact asym c
      · exact asym (down c (h'.1 z hz))
theorem isort_sorted : ∀ V U, Sorted U → Sorted (isort V U)
  | [], _, h => h
  | v :: V, U, h => isort_sorted V (ins v U) (ins_sorted v U h)
theorem isort_id : ∀ (V U : List S60), Sorted (U ++ V) → isort V U = U ++ V
  | [], U, _ => (List.append_nil U).symm
  | v :: V, U, h => by
    show isort V (ins v U) = U ++ v :: V
    have h1 := (List.pairwise_append.1 h).2.2
    have e : ins v U = U ++ [v] := by
      have := ins_right v U [] (fun u hu => h1 u hu v (by simp))
      rw [List.append_nil] at this
      rw [this]; rfl
    rw [e, isort_id V (U ++ [v]) (by rw [List.append_assoc]; exact h), List.append_assoc]; rfl
theorem ins_comm (x z : S60) (h : aheadB x z = true) : ∀ U, ins z (ins x U) = ins x (ins z U)
  | [] => by
    show ins z [x] = ins x [z]
    rw [ins, if_neg (by rw [asym h]; simp), ins, ins, if_pos h]
  | u :: r => by
    cases c : aheadB z u
    · rw [show ins z (u :: r) = u :: ins z r from by rw [ins, if_neg (by rw [c]; simp)]]
      cases d : aheadB x u
      · rw [show ins x (u :: r) = u :: ins x r from by rw [ins, if_neg (by rw [d]; simp)], ins, if_neg (by rw [c]; simp), ins, if_neg (by rw [d]; simp), ins_comm x z h r]
      · rw [show ins x (u :: r) = x :: u :: r from by rw [ins, if_pos d], ins, if_neg (by rw [asym h]; simp), ins, if_neg (by rw [c]; simp), ins, if_pos d]
    · have d := tr h c
      rw [show ins z (u :: r) = z :: u :: r from by rw [ins, if_pos c], show ins x (u :: r) = x :: u :: r from by rw [ins, if_pos d], ins, if_neg (by rw [asym h]; simp), ins, if_pos c, ins, if_pos h]
theorem isort_push (x : S60) : ∀ (o U : List S60), (∀ z ∈ o, aheadB x z = true) → isort o (ins x U) = ins x (isort o U)
  | [], _, _ => rfl
  | z :: r, U, h => by
    show isort r (ins z (ins x U)) = ins x (isort r (ins z U))
    rw [ins_comm x z (h z (by simp)) U, isort_push x r (ins z U) (fun w hw => h w (by simp [hw]))]
theorem isort_ins (x : S60) : ∀ (o U : List S60), Sorted o → isort (ins x o) U = ins x (isort o U)
  | [], _, _ => rfl
  | y :: r, U, h => by
    have h' := List.pairwise_cons.1 h
    rw [ins]
    cases c : aheadB x y
    · rw [if_neg (by simp)]
      exact isort_ins x r (ins y U) h'.2
    · rw [if_pos rfl]
      refine isort_push x (y :: r) U (fun z hz => ?_)
      rcases List.mem_cons.1 hz with rfl | hz
      · exact c
      · exact down c (h'.1 z hz)
theorem isort_isort : ∀ (V o U : List S60), Sorted o → isort (isort V o) U = isort V (isort o U)
  | [], _, _, _ => rfl
  | v :: V, o, U, h => by
    show isort (isort V (ins v o)) U = isort V (ins v (isort o U))
    rw [isort_isort V (ins v o) U (ins_sorted v o h), isort_ins v o U h]
theorem nil_sorted : Sorted [] := List.Pairwise.nil
/-- Two sorted neighbours, cut so that what is behind the one's cut goes behind what is before the other's. -/
theorem isort_cut (U1 U2 V1 V2 : List S60) (h1 : ∀ v ∈ V1, ∀ u ∈ U2, aheadB v u = true) (h2 : ∀ v ∈ V2, ∀ u ∈ U1, aheadB v u = false) (h3 : Sorted (V1 ++ V2)) : isort (V1 ++ V2) (U1 ++ U2) = isort V1 U1 ++ isort V2 U2 := by
  rw [isort_append, isort_left V1 U1 U2 h1]
  refine isort_right V2 _ _ (fun v hv u hu => ?_)
  rcases (isort_mem V1 U1 u).1 hu with hu | hu
  · exact (List.pairwise_append.1 h3).2.2 u hu v hv
  · exact h2 v hv u hu
/-- Each block of s elements sorted for itself. -/
def blk (s : Nat) (l : List S60) : List S60 := if l.length ≤ s ∨ s = 0 then isort l [] else isort (l.take s) [] ++ blk s (l.drop s)
termination_by l.length
decreasing_by rw [List.length_drop]; omega
theorem blk_short (s : Nat) (l : List S60) (h : l.length ≤ s) : blk s l = isort l [] := by rw [blk, if_pos (.inl h)]
theorem blk_cons (s : Nat) (hs : 0 < s) (a b : List S60) (h : a.length = s) : blk s (a ++ b) = isort a [] ++ blk s b := by
  rw [blk]
  split
  · next h' =>
    rw [List.length_append] at h'
    have hb : b = [] := List.length_eq_zero_iff.1 (by omega)
    subst hb
    rw [blk_short s [] (by simp), List.append_nil]
    exact (List.append_nil _).symm
  · rw [List.take_left' h, List.drop_left' h]
theorem blk_length (s : Nat) : ∀ (n : Nat) (l : List S60), l.length ≤ n → (blk s l).length = l.length
  | n, l, hn => by
    rw [blk]
    split
    · rw [isort_length]; rfl
    · next h =>
      match n, hn with
      | 0, hn => omega
      | n + 1, hn =>
        rw [List.length_append, isort_length, blk_length s n (l.drop s) (by rw [List.length_drop]; omega), List.length_nil, List.length_take, List.length_drop]
        omega
/-- Neighbouring blocks put together. -/
theorem blk_two (a b : List S60) : isort (isort b []) (isort a []) = isort (a ++ b) [] := by
  rw [isort_isort b [] _ nil_sorted, isort_append]
  rfl
end Go.Proofs.Ytebmlghhgccloaa.SortLaw
