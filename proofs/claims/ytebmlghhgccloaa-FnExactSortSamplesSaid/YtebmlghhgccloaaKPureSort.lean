/-
The program's SortSamples and the reference's return the same list, for every list of samples; the argument stays as it was, and what is laid into the results stays there.
Conditions: each string of the list has at most 2^47 - 4096 bytes; the list's length fits an int.
-/
import Derived.Test.YtebmlghhgccloaaKBytes
import Derived.Test.YtebmlghhgccloaaKQSx0
import Derived.Test.YtebmlghhgccloaaKQSx1
import Derived.Test.YtebmlghhgccloaaKQSx2
import Derived.Test.YtebmlghhgccloaaKQSx3
import Derived.Test.YtebmlghhgccloaaKQSx4
import Derived.Test.YtebmlghhgccloaaKQSx5
import Derived.Test.YtebmlghhgccloaaKQSx6
import Derived.Test.YtebmlghhgccloaaKQSx8
import Derived.Test.YtebmlghhgccloaaKSortRef
import Derived.Test.YtebmlghhgccloaaKSortLaw
namespace Go.Proofs.Ytebmlghhgccloaa.PureSort
open Go.Proofs.Ytebmlghhgccloaa
open Go Go.RowKit Go.Proofs.Ytebmlghhgccloaa.QS Go.Proofs.Ytebmlghhgccloaa.SortRef Go.Proofs.Ytebmlghhgccloaa.SortLaw Go.Proofs.YtebmlghhgccloaaW.PrintWords Go.Proofs.YtebmlghhgccloaaW.PrintLast Go.Proofs.YtebmlghhgccloaaW.PrintMore
/-! The program's comparison, insertion sort, exchange of ranges, rotation, merge. -/
/-- For all great enough numbers of steps. -/
def Ev (p : Nat → Prop) : Prop := ∃ K, ∀ k, K ≤ k → p k
theorem Ev.step {p q : Nat → Prop} (h : Ev p) (hs : ∀ k, p k → q (k + 1)) : Ev q := by
  obtain ⟨K, hK⟩ := h
  refine ⟨K + 1, fun k hk => ?_⟩
  obtain ⟨m, rfl⟩ : ∃ m, k = m + 1 := ⟨k - 1, by omega⟩
  exact hs m (hK m (by omega))
theorem Ev.mono {p q : Nat → Prop} (h : Ev p) (hs : ∀ k, p k → q k) : Ev q := by
  obtain ⟨K, hK⟩ := h
  exact ⟨K, fun k hk => hs k (hK k hk)⟩
theorem Ev.and {p q : Nat → Prop} (h : Ev p) (g : Ev q) : Ev fun k => p k ∧ q k := by
  obtain ⟨K, hK⟩ := h
  obtain ⟨L, hL⟩ := g
  exact ⟨K + L, fun k hk => ⟨hK k (by omega), hL k (by omega)⟩⟩
theorem Ev.of {p : Nat → Prop} (h : ∀ k, p k) : Ev p := ⟨0, fun k _ => h k⟩
def cmpS (a b : ByteArray) : Int := if Op.bytesLess a.toList b.toList = true then -1 else if Op.bytesLess b.toList a.toList = true then 1 else 0
theorem cmpS_f (a b : ByteArray) : cmp_Compare_string.f a b = some (cmpS a b) := by
  unfold cmp_Compare_string.f cmp_isNaN_string.f cmpS
  simp only [Option.bind_some, bne_self_eq_false, Bool.false_eq_true, if_false]
  split
  · rfl
  · split <;> rfl
def cmpI (a b : Int) : Int := if a < b then -1 else if a > b then 1 else 0
theorem cmpI_f (a b : Int) : cmp_Compare_int.f a b = some (cmpI a b) := by
  unfold cmp_Compare_int.f cmp_isNaN_int.f cmpI
  simp only [Option.bind_some, bne_self_eq_false, Bool.false_eq_true, if_false]
  split
  · rfl
  · split <;> rfl
theorem or_f (a b c : Int) (k : Nat) : cmp_Or_int.f (k + 4) [a, b, c] = some (if a = 0 then (if b = 0 then c else b) else a) := by
  unfold cmp_Or_int.f
  have e1 : wrap64 ((0 : Int) + 1) = 1 := by rw [wi _ (by omega) (by omega)]; omega
  have e2 : wrap64 ((1 : Int) + 1) = 2 := by rw [wi _ (by omega) (by omega)]; omega
  have e3 : wrap64 ((2 : Int) + 1) = 3 := by rw [wi _ (by omega) (by omega)]; omega
  have l3 : (([a, b, c] : List Int).length : Int) = 3 := rfl
  have r0 : rd [a, b, c] 0 = a := rfl
  have r1 : rd [a, b, c] 1 = b := rfl
  have r2 : rd [a, b, c] 2 = c := rfl
  rw [l3, cmp_Or_int.l0, if_pos (by omega), if_pos (by omega), l3, if_pos (by omega), r0, e1]
  by_cases ha : a = 0
  · rw [if_pos ha, if_pos ha, cmp_Or_int.l0, if_pos (by omega), if_pos (by omega), l3, if_pos (by omega), r1, e2]
    by_cases hb : b = 0
    · rw [if_pos hb, if_pos hb, cmp_Or_int.l0, if_pos (by omega), if_pos (by omega), l3, if_pos (by omega), r2, e3]
      by_cases hc : c = 0
      · rw [if_pos hc, cmp_Or_int.l0, if_neg (by omega), hc]
      · rw [if_neg hc]
    · rw [if_neg hb, if_neg hb]
  · rw [if_neg ha, if_neg ha]
theorem cmpS_zero (a b : ByteArray) : cmpS a b = 0 ↔ a.data.toList = b.data.toList := by
  unfold cmpS
  rw [Lib.toList_data, Lib.toList_data]
  constructor
  · intro h
    split at h
    · omega
    · next h1 =>
      split at h
      · omega
      · next h2 => exact eq_l (fun h => h1 ((Bytes.less_iff _ _).2 h)) (fun h => h2 ((Bytes.less_iff _ _).2 h))
  · intro h
    rw [h, if_neg (fun h' => absurd ((Bytes.less_iff _ _).1 h') (List.lt_irrefl _)), if_neg (fun h' => absurd ((Bytes.less_iff _ _).1 h') (List.lt_irrefl _))]
theorem cmpS_neg (a b : ByteArray) : cmpS a b < 0 ↔ a.data.toList < b.data.toList := by
  unfold cmpS
  rw [Lib.toList_data, Lib.toList_data]
  constructor
  · intro h
    split at h
    · next h1 => exact (Bytes.less_iff _ _).1 h1
    · split at h <;> omega
  · intro h
    rw [if_pos ((Bytes.less_iff _ _).2 h)]
    omega
/-- The comparing function's answer is less than nought just where the one sample is ahead of the other. -/
theorem cmp_lt (x y : S60) : ∃ c : Int, (∀ k, 5 ≤ k → impl_SortSamples_closure1.f k x.f0 x.f1 x.f2 x.f3 y.f0 y.f1 y.f2 y.f3 = some c) ∧ (c < 0 ↔ aheadB x y = true) := by
  refine ⟨if cmpS x.f0 y.f0 = 0 then (if cmpS x.f1 y.f1 = 0 then cmpI x.f3 y.f3 else cmpS x.f1 y.f1) else cmpS x.f0 y.f0, ?_, ?_⟩
  · intro k hk
    obtain ⟨m, rfl⟩ : ∃ m, k = m + 4 := ⟨k - 4, by omega⟩
    unfold impl_SortSamples_closure1.f
    rw [cmpS_f, cmpS_f, cmpI_f]
    simp only [Option.bind_some]
    rw [or_f]
    rfl
  · unfold aheadB
    by_cases h0 : cmpS x.f0 y.f0 = 0
    · rw [if_pos h0, if_pos ((cmpS_zero _ _).1 h0)]
      by_cases h1 : cmpS x.f1 y.f1 = 0
      · rw [if_pos h1, if_pos ((cmpS_zero _ _).1 h1), decide_eq_true_iff]
        unfold cmpI
        constructor
        · intro h; split at h
          · next h' => exact h'
          · split at h <;> omega
        · intro h; rw [if_pos h]; omega
      · rw [if_neg h1, if_neg (fun e => h1 ((cmpS_zero _ _).2 e)), decide_eq_true_iff]
        exact cmpS_neg _ _
    · rw [if_neg h0, if_neg (fun e => h0 ((cmpS_zero _ _).2 e)), decide_eq_true_iff]
      exact cmpS_neg _ _
theorem rd_at (A : List S60) (x : S60) (C : List S60) (i : Int) (h : i = A.length) : rd_T60 (A ++ x :: C) i = x := by
  subst h
  simp [rd_T60, List.getD_eq_getElem?_getD]
theorem set_at (A : List S60) (x : S60) (C : List S60) (y : S60) (i : Int) (h : i = A.length) : (A ++ x :: C).set i.toNat y = A ++ y :: C := by
  subst h
  rw [Int.toNat_natCast, List.set_append_right _ _ (Nat.le_refl _), Nat.sub_self]
  rfl
/-- Two places' elements, exchanged. -/
theorem swap_ij (A : List S60) (u : S60) (M : List S60) (v : S60) (C : List S60) (i j : Int) (hi : i = A.length) (hj : j = A.length + 1 + M.length) : ((A ++ u :: (M ++ v :: C)).set i.toNat v).set j.toNat u = A ++ v :: (M ++ u :: C) := by
  rw [set_at A u _ v i hi]
  have e : A ++ v :: (M ++ v :: C) = (A ++ v :: M) ++ v :: C := by simp
  rw [e, set_at (A ++ v :: M) v C u j (by rw [hj, List.length_append, List.length_cons]; omega)]
  simp
theorem swap_ji (A : List S60) (u : S60) (M : List S60) (v : S60) (C : List S60) (i j : Int) (hi : i = A.length) (hj : j = A.length + 1 + M.length) : ((A ++ u :: (M ++ v :: C)).set j.toNat u).set i.toNat v = A ++ v :: (M ++ u :: C) := by
  have e : A ++ u :: (M ++ v :: C) = (A ++ u :: M) ++ v :: C := by simp
  rw [e, set_at (A ++ u :: M) v C u j (by rw [hj, List.length_append, List.length_cons]; omega)]
  have e2 : (A ++ u :: M) ++ u :: C = A ++ u :: (M ++ u :: C) := by simp
  rw [e2, set_at A u _ v i hi]
theorem rd_j (A : List S60) (u : S60) (M : List S60) (v : S60) (C : List S60) (j : Int) (hj : j = A.length + 1 + M.length) : rd_T60 (A ++ u :: (M ++ v :: C)) j = v := by
  have e : A ++ u :: (M ++ v :: C) = (A ++ u :: M) ++ v :: C := by simp
  rw [e, rd_at (A ++ u :: M) v C j (by rw [hj, List.length_append, List.length_cons]; omega)]
theorem Ev.step5 {p q : Nat → Prop} (h : Ev p) (hs : ∀ k, 5 ≤ k → p k → q (k + 1)) : Ev q := by
  obtain ⟨K, hK⟩ := h
  refine ⟨K + 6, fun k hk => ?_⟩
  obtain ⟨m, rfl⟩ : ∃ m, k = m + 1 := ⟨k - 1, by omega⟩
  exact hs m (by omega) (hK m (by omega))
/-- What two places of a list show. -/
theorem pair_at (A : List S60) (u : S60) (M : List S60) (v : S60) (C : List S60) (i j : Int) (hi : i = A.length) (hj : j = A.length + 1 + M.length) : ∃ xs, xs = A ++ u :: (M ++ v :: C) ∧ xs.length = A.length + 2 + M.length + C.length ∧ rd_T60 xs i = u ∧ rd_T60 xs j = v ∧ (xs.set i.toNat v).set j.toNat u = A ++ v :: (M ++ u :: C) ∧ (xs.set j.toNat u).set i.toNat v = A ++ v :: (M ++ u :: C) :=
  ⟨_, rfl, by simp only [List.length_append, List.length_cons]; omega, rd_at _ _ _ _ hi, rd_j _ _ _ _ _ _ hj, swap_ij _ _ _ _ _ _ _ hi hj, swap_ji _ _ _ _ _ _ _ hi hj⟩
theorem wn (e : Int) (n : Nat) (h : e = n) (hn : n ≤ 4611686018427387904) : wrap64 e = (n : Int) := by
  rw [wi e (by omega) (by omega), h]
theorem ins_l1 (A C : List S60) (b : Int) (x : S60) (i : Nat) (hi : i ≤ 1000) (hA : A.length ≤ 1000) (r : List S60) :
    ∀ (n : Nat) (S1 S2 : List S60), S1.length = n → n ≤ 1000 → Sorted S1 → (∀ z ∈ S2, aheadB x z = true) →
      Ev (fun k => impl_Sample_62.l0 k (A ++ (ins x (S1 ++ S2) ++ C)) (A.length : Int) b ((i + 1 : Nat) : Int) = some r) →
      Ev (fun k => impl_Sample_62.l1 k (A ++ (S1 ++ x :: (S2 ++ C))) (A.length : Int) b (i : Int) ((A.length + S1.length : Nat) : Int) = some r)
  | 0, S1, S2, hn, _, _, h2, h => by
    obtain rfl : S1 = [] := List.length_eq_zero_iff.1 hn
    have e : ins x ([] ++ S2) = x :: S2 := ins_left x [] S2 h2
    rw [e] at h
    refine h.step fun k hk => ?_
    rw [impl_Sample_62.l1, if_neg (by rw [List.length_nil]; omega), wn ((i : Int) + 1) (i + 1) (by omega) (by omega)]
    exact hk
  | n + 1, S1, S2, hn, hb, hs, h2, h => by
    rcases List.eq_nil_or_concat S1 with rfl | ⟨S1', y, hS⟩
    · cases hn
    rw [List.concat_eq_append] at hS
    subst hS
    rw [List.length_append, List.length_singleton] at hn
    obtain ⟨xs, hx, hl, hri, hrj, _, hsw⟩ := pair_at (A ++ S1') y [] x (S2 ++ C) ((A.length + S1'.length : Nat) : Int) ((A.length + (S1' ++ [y]).length : Nat) : Int) (by rw [List.length_append]) (by simp only [List.length_append, List.length_singleton, List.length_nil]; omega)
    have ex : A ++ ((S1' ++ [y]) ++ x :: (S2 ++ C)) = xs := by rw [hx]; simp
    rw [ex]
    simp only [List.length_append, List.length_singleton] at hl hrj hsw ⊢
    obtain ⟨c, hc, hlt⟩ := cmp_lt x y
    have hw : wrap64 (((A.length + (S1'.length + 1) : Nat) : Int) - 1) = ((A.length + S1'.length : Nat) : Int) := wn _ _ (by omega) (by omega)
    cases ha : aheadB x y
    · have h1 : ∀ z ∈ S1' ++ [y], aheadB x z = false := by
        intro z hz
        rcases List.mem_append.1 hz with hz | hz
        · exact nt ha ((List.pairwise_append.1 hs).2.2 z hz y (by simp))
        · rw [List.mem_singleton.1 hz]; exact ha
      have e : A ++ (ins x ((S1' ++ [y]) ++ S2) ++ C) = xs := by
        have e2 : ins x S2 = x :: S2 := ins_left x [] S2 h2
        rw [ins_right x _ S2 h1, e2, ← ex]
        simp
      rw [e] at h
      refine h.step5 fun k hk5 hk => ?_
      rw [impl_Sample_62.l1, if_pos (by omega), if_pos (by omega), if_pos (by omega), hw, if_pos (by omega), if_pos (by omega), hri, hrj, hc k hk5, Option.bind_some, if_neg (fun h => by rw [hlt.1 h] at ha; cases ha), wn ((i : Int) + 1) (i + 1) (by omega) (by omega)]
      exact hk
    · have ih := ins_l1 A C b x i hi hA r n S1' (y :: S2) (by omega) (by omega) (List.pairwise_append.1 hs).1 (fun z hz => by
        rcases List.mem_cons.1 hz with rfl | hz
        · exact ha
        · exact h2 z hz) (by
          have e : (S1' ++ [y]) ++ S2 = S1' ++ y :: S2 := by simp
          rw [e] at h
          exact h)
      have e : A ++ (S1' ++ x :: (y :: S2 ++ C)) = (A ++ S1') ++ x :: ([] ++ y :: (S2 ++ C)) := by simp
      rw [e, ← hsw] at ih
      refine ih.step5 fun k hk5 hk => ?_
      rw [impl_Sample_62.l1, if_pos (by omega), if_pos (by omega), if_pos (by omega), hw, if_pos (by omega), if_pos (by omega), hri, hrj, hc k hk5, Option.bind_some, if_pos (hlt.2 ha)]
      exact hk
theorem ins_l0 (A C : List S60) (hA : A.length ≤ 1000) : ∀ (R O : List S60), O.length + R.length ≤ 1000 → Sorted O → A.length + O.length + R.length ≤ 1000 →
    Ev (fun k => impl_Sample_62.l0 k (A ++ (O ++ (R ++ C))) (A.length : Int) ((A.length + O.length + R.length : Nat) : Int) ((A.length + O.length : Nat) : Int) = some (A ++ (isort R O ++ C)))
  | [], O, hl, hs, hl2 => ⟨1, fun k hk => by
    obtain ⟨m, rfl⟩ : ∃ m, k = m + 1 := ⟨k - 1, by omega⟩
    rw [impl_Sample_62.l0, if_neg (by rw [List.length_nil]; omega)]
    rfl⟩
  | x :: R, O, hl, hs, hl2 => by
    rw [List.length_cons] at hl hl2
    have ih := ins_l0 A C hA R (ins x O) (by rw [ins_length]; omega) (ins_sorted x O hs) (by rw [ins_length]; omega)
    have h1 := ins_l1 A (R ++ C) ((A.length + O.length + (R.length + 1) : Nat) : Int) x (A.length + O.length) (by omega) hA (A ++ (isort R (ins x O) ++ C)) O.length O [] rfl (by omega) hs (fun z hz => by cases hz) (by
      rw [List.append_nil]
      rw [ins_length] at ih
      have e1 : A.length + (O.length + 1) = A.length + O.length + 1 := by omega
      have e2 : A.length + (O.length + 1) + R.length = A.length + O.length + (R.length + 1) := by omega
      rw [e2, e1] at ih
      exact ih)
    refine h1.step fun k hk => ?_
    rw [List.length_cons, impl_Sample_62.l0, if_pos (by omega)]
    exact hk
theorem ins_f (A S C : List S60) (d : Int) (a b : Int) (ha : a = A.length) (hb : b = A.length + S.length) (hl : A.length + S.length ≤ 900) : Ev (fun k => impl_Sample_62.f k (A ++ (S ++ C)) a b d = some (A ++ (isort S [] ++ C))) := by
  subst ha hb
  unfold impl_Sample_62.f
  cases S with
  | nil =>
    refine ⟨1, fun k hk => ?_⟩
    obtain ⟨m, rfl⟩ : ∃ m, k = m + 1 := ⟨k - 1, by omega⟩
    rw [wn _ (A.length + 1) (by omega) (by omega), impl_Sample_62.l0, if_neg (by rw [List.length_nil]; omega)]
    rfl
  | cons x R =>
    rw [List.length_cons] at hl
    have h := ins_l0 A C (by omega) R [x] (by rw [List.length_singleton]; omega) (List.pairwise_singleton _ _) (by rw [List.length_singleton]; omega)
    refine h.mono fun k hk => ?_
    rw [wn _ (A.length + 1) (by omega) (by omega)]
    have e : (A.length : Int) + ((x :: R).length : Int) = ((A.length + [x].length + R.length : Nat) : Int) := by rw [List.length_cons, List.length_singleton]; omega
    rw [e]
    exact hk
theorem swap_l0 (a b n : Nat) (hn : a + n ≤ 1000 ∧ b + n ≤ 1000) : ∀ (U V A M C : List S60) (i : Nat), U.length = V.length → A.length = a + i → A.length + U.length + M.length = b + i → i + U.length = n →
    Ev (fun k => impl_Sample_81.l0 k (A ++ (U ++ (M ++ (V ++ C)))) (a : Int) (b : Int) (n : Int) (i : Int) = some (A ++ (V ++ (M ++ (U ++ C)))))
  | [], V, A, M, C, i, h1, h2, h3, h4 => by
    obtain rfl : V = [] := List.length_eq_zero_iff.1 h1.symm
    rw [List.length_nil] at h4
    refine ⟨1, fun k hk => ?_⟩
    obtain ⟨m, rfl⟩ : ∃ m, k = m + 1 := ⟨k - 1, by omega⟩
    rw [impl_Sample_81.l0, if_neg (by omega)]
  | u :: U, [], A, M, C, i, h1, h2, h3, h4 => by cases h1
  | u :: U, v :: V, A, M, C, i, h1, h2, h3, h4 => by
    simp only [List.length_cons] at h1 h3 h4
    obtain ⟨xs, hx, hl, hri, hrj, hsw, _⟩ := pair_at A u (U ++ M) v (V ++ C) ((a + i : Nat) : Int) ((b + i : Nat) : Int) (by omega) (by rw [List.length_append]; omega)
    have ex : A ++ (u :: U ++ (M ++ (v :: V ++ C))) = xs := by rw [hx]; simp
    simp only [List.length_append] at hl
    have ih := swap_l0 a b n hn U V (A ++ [v]) (M ++ [u]) C (i + 1) (by omega) (by rw [List.length_append, List.length_singleton]; omega) (by simp only [List.length_append, List.length_singleton]; omega) (by omega)
    have e1 : A ++ [v] ++ (U ++ (M ++ [u] ++ (V ++ C))) = A ++ v :: ((U ++ M) ++ u :: (V ++ C)) := by simp
    have e2 : A ++ [v] ++ (V ++ (M ++ [u] ++ (U ++ C))) = A ++ (v :: V ++ (M ++ (u :: U ++ C))) := by simp
    rw [e1, e2, ← hsw] at ih
    rw [ex]
    refine ih.step fun k hk => ?_
    rw [impl_Sample_81.l0, wn ((a : Int) + (i : Int)) ((a + i)) (by omega) (by omega), wn ((b : Int) + (i : Int)) ((b + i)) (by omega) (by omega), if_pos (by omega), if_pos (by omega), if_pos (by omega), if_pos (by omega), if_pos (by omega), hri, hrj, wn ((i : Int) + 1) (i + 1) (by omega) (by omega)]
    exact hk
theorem swap_f (A U M V C : List S60) (a b n d : Int) (hUV : U.length = V.length) (ha : a = A.length) (hb : b = ((A.length + U.length + M.length : Nat) : Int)) (hn : n = U.length) (hl : A.length + U.length + M.length + V.length ≤ 1000) : Ev (fun k => impl_Sample_81.f k (A ++ (U ++ (M ++ (V ++ C)))) a b n d = some (A ++ (V ++ (M ++ (U ++ C))))) := by
  subst ha hb hn
  unfold impl_Sample_81.f
  exact swap_l0 A.length (A.length + U.length + M.length) U.length (by omega) U V A M C 0 hUV rfl rfl (Nat.zero_add _)
theorem rot_l0 (d : Int) (N : Nat) (hN : N ≤ 1000) : ∀ (n : Nat) (A U V C : List S60) (m : Nat), U.length + V.length ≤ n → 0 < U.length → 0 < V.length → m = A.length + U.length → A.length + U.length + V.length ≤ N →
    Ev (fun k => impl_Sample_75.l0 k (A ++ (U ++ (V ++ C))) (m : Int) d (U.length : Int) (V.length : Int) = some (A ++ (V ++ (U ++ C))))
  | 0, A, U, V, C, m, hn, hu, hv, hm, hl => by omega
  | n + 1, A, U, V, C, m, hn, hu, hv, hm, hl => by
    have w1 : wrap64 ((m : Int) - (U.length : Int)) = (A.length : Int) := wn _ _ (by omega) (by omega)
    rcases Nat.lt_trichotomy U.length V.length with hlt | heq | hgt
    · obtain ⟨V1, V2, rfl, h2⟩ : ∃ V1 V2, V = V1 ++ V2 ∧ V2.length = U.length := ⟨V.take (V.length - U.length), V.drop (V.length - U.length), (List.take_append_drop _ _).symm, by rw [List.length_drop]; omega⟩
      rw [List.length_append] at hlt hn hl
      have hs := swap_f A U V1 V2 C (A.length : Int) ((A.length + U.length + V1.length : Nat) : Int) (U.length : Int) d h2.symm rfl rfl rfl (by omega)
      have ih := rot_l0 d N hN n A V2 V1 (U ++ C) m (by omega) (by omega) (by omega) (by omega) (by omega)
      have e1 : A ++ (U ++ (V1 ++ V2 ++ C)) = A ++ (U ++ (V1 ++ (V2 ++ C))) := by simp
      have e2 : A ++ (V1 ++ V2 ++ (U ++ C)) = A ++ (V1 ++ (V2 ++ (U ++ C))) := by simp
      rw [e1, e2]
      refine (hs.and ih).step fun k hk => ?_
      have h2' : (V2.length : Int) = (U.length : Int) := by rw [h2]
      rw [impl_Sample_75.l0, if_neg (by rw [List.length_append]; omega), if_neg (by rw [List.length_append]; omega), w1, wn ((m : Int) + ((V1 ++ V2).length : Int)) ((m + (V1.length + V2.length))) (by rw [List.length_append]; omega) (by omega), wn (((m + (V1.length + V2.length) : Nat) : Int) - (U.length : Int)) ((A.length + U.length + V1.length)) (by omega) (by omega), wn (((V1 ++ V2).length : Int) - (U.length : Int)) (V1.length) (by rw [List.length_append]; omega) (by omega), hk.1, Option.bind_some, ← h2']
      exact hk.2
    · have hs := swap_f A U [] V C (A.length : Int) (m : Int) (U.length : Int) d heq rfl (by rw [hm, List.length_nil]; rfl) rfl (by rw [List.length_nil]; omega)
      refine hs.step fun k hk => ?_
      rw [impl_Sample_75.l0, if_pos (by omega), w1]
      have hk' : impl_Sample_81.f k (A ++ (U ++ (V ++ C))) (A.length : Int) (m : Int) (U.length : Int) d = some (A ++ (V ++ (U ++ C))) := hk
      rw [hk', Option.bind_some]
    · obtain ⟨U1, U2, rfl, h1⟩ : ∃ U1 U2, U = U1 ++ U2 ∧ U1.length = V.length := ⟨U.take V.length, U.drop V.length, (List.take_append_drop _ _).symm, by rw [List.length_take]; omega⟩
      rw [List.length_append] at hgt hn hl hm
      have hs := swap_f A U1 U2 V C (A.length : Int) (m : Int) (V.length : Int) d h1 rfl (by rw [hm, Nat.add_assoc]) (by rw [h1]) (by omega)
      have ih := rot_l0 d N hN n (A ++ V) U2 U1 C m (by omega) (by omega) (by omega) (by rw [List.length_append]; omega) (by rw [List.length_append]; omega)
      have e1 : A ++ (U1 ++ U2 ++ (V ++ C)) = A ++ (U1 ++ (U2 ++ (V ++ C))) := by simp
      have e2 : A ++ V ++ (U2 ++ (U1 ++ C)) = A ++ (V ++ (U2 ++ (U1 ++ C))) := by simp
      have e3 : A ++ V ++ (U1 ++ (U2 ++ C)) = A ++ (V ++ (U1 ++ U2 ++ C)) := by simp
      rw [e2, e3] at ih
      rw [e1]
      refine (hs.and ih).step fun k hk => ?_
      have h1' : (U1.length : Int) = (V.length : Int) := by rw [h1]
      rw [impl_Sample_75.l0, if_neg (by rw [List.length_append]; omega), if_pos (by rw [List.length_append]; omega), w1, wn (((U1 ++ U2).length : Int) - (V.length : Int)) (U2.length) (by rw [List.length_append]; omega) (by omega), hk.1, Option.bind_some]
      rw [← h1']
      exact hk.2
theorem rot_f (A U V C : List S60) (a m b d : Int) (hu : 0 < U.length) (hv : 0 < V.length) (ha : a = A.length) (hm : m = ((A.length + U.length : Nat) : Int)) (hb : b = ((A.length + U.length + V.length : Nat) : Int)) (hl : A.length + U.length + V.length ≤ 1000) :
    Ev (fun k => impl_Sample_75.f k (A ++ (U ++ (V ++ C))) a m b d = some (A ++ (V ++ (U ++ C)))) := by
  subst ha hm hb
  unfold impl_Sample_75.f
  refine (rot_l0 d 1000 (by omega) (U.length + V.length) A U V C (A.length + U.length) (Nat.le_refl _) hu hv rfl hl).mono fun k hk => ?_
  rw [wn _ U.length (by omega) (by omega), wn _ V.length (by omega) (by omega)]
  exact hk
theorem mid_n (i j : Nat) (h : i + j ≤ 4000) : wrap64 (IntKind.u64.wrap (wrap64 ((i : Int) + (j : Int))) / 2) = (((i + j) / 2 : Nat) : Int) := by
  rw [wn ((i : Int) + (j : Int)) (i + j) (by omega) (by omega)]
  have e : IntKind.u64.wrap ((i + j : Nat) : Int) = ((i + j : Nat) : Int) := by
    simp only [IntKind.wrap, IntKind.signed, IntKind.bits]
    simp
    omega
  rw [e]
  exact wn _ _ (by omega) (by omega)
theorem search {β : Type} (F : Nat → Nat → Nat → Option β) (G : Nat → Nat → Option β) (lo hi : Nat) (Q : Nat → Bool)
    (h1 : ∀ k i j, 5 ≤ k → lo ≤ i → i < j → j ≤ hi → F (k + 1) i j = if Q ((i + j) / 2) = true then F k ((i + j) / 2 + 1) j else F k i ((i + j) / 2))
    (h2 : ∀ k i, lo ≤ i → i ≤ hi → F (k + 1) i i = G k i) :
    ∀ (d i j : Nat), lo ≤ i → i ≤ j → j ≤ hi → j - i ≤ d → (i = lo ∨ Q (i - 1) = true) → (j = hi ∨ Q j = false) →
      ∃ s, lo ≤ s ∧ s ≤ hi ∧ (s = lo ∨ Q (s - 1) = true) ∧ (s = hi ∨ Q s = false) ∧ ∀ r, Ev (fun k => G k s = some r) → Ev (fun k => F k i j = some r)
  | 0, i, j, hi1, hij, hj, hd, hq1, hq2 => by
    obtain rfl : i = j := by omega
    refine ⟨i, hi1, hj, hq1, hq2, fun r hr => hr.step fun k hk => ?_⟩
    rw [h2 k i hi1 hj]; exact hk
  | d + 1, i, j, hi1, hij, hj, hd, hq1, hq2 => by
    rcases Nat.lt_or_ge i j with hlt | hge
    · cases hq : Q ((i + j) / 2)
      · obtain ⟨s, a1, a2, a3, a4, a5⟩ := search F G lo hi Q h1 h2 d i ((i + j) / 2) hi1 (by omega) (by omega) (by omega) hq1 (.inr hq)
        refine ⟨s, a1, a2, a3, a4, fun r hr => (a5 r hr).step5 fun k hk5 hk => ?_⟩
        rw [h1 k i j hk5 hi1 hlt hj, if_neg (by rw [hq]; simp)]; exact hk
      · obtain ⟨s, a1, a2, a3, a4, a5⟩ := search F G lo hi Q h1 h2 d ((i + j) / 2 + 1) j (by omega) (by omega) hj (by omega) (.inr hq) hq2
        refine ⟨s, a1, a2, a3, a4, fun r hr => (a5 r hr).step5 fun k hk5 hk => ?_⟩
        rw [h1 k i j hk5 hi1 hlt hj, if_pos hq]; exact hk
    · obtain rfl : i = j := by omega
      refine ⟨i, hi1, hj, hq1, hq2, fun r hr => hr.step fun k hk => ?_⟩
      rw [h2 k i hi1 hj]; exact hk
theorem search0 (xs : List S60) (a lo hi : Nat) (ha : a < xs.length) (hlh : lo ≤ hi) (hhi : hi ≤ xs.length) (hl : xs.length ≤ 1000) :
    ∃ s, lo ≤ s ∧ s ≤ hi ∧ (s = lo ∨ aheadB (rd_T60 xs ((s - 1 : Nat) : Int)) (rd_T60 xs (a : Int)) = true) ∧ (s = hi ∨ aheadB (rd_T60 xs (s : Int)) (rd_T60 xs (a : Int)) = false) ∧
      ∀ r, Ev (fun k => impl_Sample_63.l1 k xs (s : Int) (a : Int) = some r) → Ev (fun k => impl_Sample_63.l0 k xs (a : Int) (lo : Int) (hi : Int) = some r) := by
  refine search (fun k i j => impl_Sample_63.l0 k xs (a : Int) (i : Int) (j : Int)) (fun k s => impl_Sample_63.l1 k xs (s : Int) (a : Int)) lo hi (fun h => aheadB (rd_T60 xs (h : Int)) (rd_T60 xs (a : Int))) ?_ ?_ (hi - lo) lo hi (Nat.le_refl _) hlh (Nat.le_refl _) (Nat.le_refl _) (.inl rfl) (.inl rfl)
  · intro k i j hk h1 h2 h3
    obtain ⟨c, hc, hlt⟩ := cmp_lt (rd_T60 xs (((i + j) / 2 : Nat) : Int)) (rd_T60 xs (a : Int))
    show impl_Sample_63.l0 (k + 1) xs (a : Int) (i : Int) (j : Int) = _
    rw [impl_Sample_63.l0, mid_n i j (by omega), if_pos (by omega), if_pos (by omega), if_pos (by omega), if_pos (by omega), if_pos (by omega), hc k hk, Option.bind_some, wn (((((i + j) / 2 : Nat) : Int)) + 1) ((i + j) / 2 + 1) (by omega) (by omega)]
    by_cases h : c < 0
    · rw [if_pos h, if_pos (hlt.1 h)]
    · rw [if_neg h, if_neg (fun h' => h (hlt.2 h'))]
  · intro k i h1 h2
    show impl_Sample_63.l0 (k + 1) xs (a : Int) (i : Int) (i : Int) = _
    rw [impl_Sample_63.l0, if_neg (by omega)]
theorem search2 (xs : List S60) (m lo hi : Nat) (ha : m < xs.length) (hlh : lo ≤ hi) (hhi : hi ≤ xs.length) (hl : xs.length ≤ 1000) :
    ∃ s, lo ≤ s ∧ s ≤ hi ∧ (s = lo ∨ (!aheadB (rd_T60 xs (m : Int)) (rd_T60 xs ((s - 1 : Nat) : Int))) = true) ∧ (s = hi ∨ (!aheadB (rd_T60 xs (m : Int)) (rd_T60 xs (s : Int))) = false) ∧
      ∀ r, Ev (fun k => impl_Sample_63.l3 k xs (s : Int) (m : Int) = some r) → Ev (fun k => impl_Sample_63.l2 k xs (m : Int) (lo : Int) (hi : Int) = some r) := by
  refine search (fun k i j => impl_Sample_63.l2 k xs (m : Int) (i : Int) (j : Int)) (fun k s => impl_Sample_63.l3 k xs (s : Int) (m : Int)) lo hi (fun h => !aheadB (rd_T60 xs (m : Int)) (rd_T60 xs (h : Int))) ?_ ?_ (hi - lo) lo hi (Nat.le_refl _) hlh (Nat.le_refl _) (Nat.le_refl _) (.inl rfl) (.inl rfl)
  · intro k i j hk h1 h2 h3
    obtain ⟨c, hc, hlt⟩ := cmp_lt (rd_T60 xs (m : Int)) (rd_T60 xs (((i + j) / 2 : Nat) : Int))
    show impl_Sample_63.l2 (k + 1) xs (m : Int) (i : Int) (j : Int) = _
    rw [impl_Sample_63.l2, mid_n i j (by omega), if_pos (by omega), if_pos (by omega), if_pos (by omega), if_pos (by omega), if_pos (by omega), hc k hk, Option.bind_some, wn (((((i + j) / 2 : Nat) : Int)) + 1) ((i + j) / 2 + 1) (by omega) (by omega)]
    by_cases h : c < 0
    · rw [if_pos h, if_neg (by rw [hlt.1 h]; simp)]
    · have h' : aheadB (rd_T60 xs (m : Int)) (rd_T60 xs (((i + j) / 2 : Nat) : Int)) = false := by
        cases e : aheadB (rd_T60 xs (m : Int)) (rd_T60 xs (((i + j) / 2 : Nat) : Int))
        · rfl
        · exact absurd (hlt.2 e) h
      rw [if_neg h, if_pos (by rw [h']; rfl)]
  · intro k i h1 h2
    show impl_Sample_63.l2 (k + 1) xs (m : Int) (i : Int) (i : Int) = _
    rw [impl_Sample_63.l2, if_neg (by omega)]
theorem rot_one (u : S60) (C : List S60) (s : Nat) (hs : s ≤ 1000) : ∀ (V A : List S60), s = A.length + 1 + V.length → Ev (fun k => impl_Sample_63.l1 k (A ++ u :: (V ++ C)) (s : Int) (A.length : Int) = some (A ++ (V ++ u :: C)))
  | [], A, h => by
    rw [List.length_nil] at h
    refine ⟨1, fun k hk => ?_⟩
    obtain ⟨m, rfl⟩ : ∃ m, k = m + 1 := ⟨k - 1, by omega⟩
    rw [impl_Sample_63.l1, wn ((s : Int) - 1) A.length (by omega) (by omega), if_neg (by omega)]
    rfl
  | v :: V, A, h => by
    rw [List.length_cons] at h
    obtain ⟨xs, hx, hl, hri, hrj, hsw, _⟩ := pair_at A u [] v (V ++ C) (A.length : Int) ((A.length + 1 : Nat) : Int) rfl (by rw [List.length_nil]; omega)
    have ih := rot_one u C s hs V (A ++ [v]) (by rw [List.length_append, List.length_singleton]; omega)
    have e1 : A ++ [v] ++ u :: (V ++ C) = A ++ v :: ([] ++ u :: (V ++ C)) := by simp
    have e2 : A ++ [v] ++ (V ++ u :: C) = A ++ (v :: V ++ u :: C) := by simp
    have e3 : ((A ++ [v]).length : Int) = ((A.length + 1 : Nat) : Int) := by rw [List.length_append, List.length_singleton]
    rw [e1, e2, e3, ← hsw] at ih
    have ex : A ++ u :: (v :: V ++ C) = xs := by rw [hx]; simp
    rw [ex]
    refine ih.step fun k hk => ?_
    rw [impl_Sample_63.l1, wn ((s : Int) - 1) (A.length + 1 + V.length) (by omega) (by omega), wn ((A.length : Int) + 1) (A.length + 1) (by omega) (by omega), if_pos (by omega), if_pos (by omega), if_pos (by omega), if_pos (by omega), if_pos (by omega), hri, hrj]
    exact hk
theorem rot_back (v : S60) (A : List S60) : ∀ (n : Nat) (U C : List S60), U.length = n → A.length + U.length ≤ 1000 → Ev (fun k => impl_Sample_63.l3 k (A ++ (U ++ v :: C)) (A.length : Int) ((A.length + U.length : Nat) : Int) = some (A ++ v :: (U ++ C)))
  | 0, U, C, hn, hl => by
    obtain rfl : U = [] := List.length_eq_zero_iff.1 hn
    refine ⟨1, fun k hk => ?_⟩
    obtain ⟨m, rfl⟩ : ∃ m, k = m + 1 := ⟨k - 1, by omega⟩
    rw [impl_Sample_63.l3, if_neg (by rw [List.length_nil]; omega)]
    rfl
  | n + 1, U, C, hn, hl => by
    rcases List.eq_nil_or_concat U with rfl | ⟨U', u, hU⟩
    · cases hn
    rw [List.concat_eq_append] at hU
    subst hU
    rw [List.length_append, List.length_singleton] at hn hl
    obtain ⟨xs, hx, hl2, hri, hrj, _, hsw⟩ := pair_at (A ++ U') u [] v C ((A.length + U'.length : Nat) : Int) ((A.length + (U'.length + 1) : Nat) : Int) (by rw [List.length_append]) (by rw [List.length_append, List.length_nil]; omega)
    have ih := rot_back v A n U' (u :: C) (by omega) (by omega)
    have e1 : A ++ (U' ++ v :: u :: C) = (A ++ U') ++ v :: ([] ++ u :: C) := by simp
    have e2 : A ++ v :: (U' ++ u :: C) = A ++ v :: (U' ++ [u] ++ C) := by simp
    have ex : A ++ (U' ++ [u] ++ v :: C) = xs := by rw [hx]; simp
    rw [e1, e2, ← hsw] at ih
    rw [List.length_append] at hl2
    rw [ex, List.length_append, List.length_singleton]
    refine ih.step fun k hk => ?_
    rw [impl_Sample_63.l3, wn (((A.length + (U'.length + 1) : Nat) : Int) - 1) (A.length + U'.length) (by omega) (by omega), if_pos (by omega), if_pos (by omega), if_pos (by omega), if_pos (by omega), if_pos (by omega), hri, hrj]
    exact hk
theorem up {w v u : S60} (h1 : aheadB w u = true) (h2 : aheadB w v = false) : aheadB v u = true := by
  cases h : aheadB v u
  · rw [nt h2 h] at h1; cases h1
  · rfl
theorem cutL {V : List S60} {u : S60} (hs : Sorted V) (h : V = [] ∨ ∃ W w, V = W ++ [w] ∧ aheadB w u = true) : ∀ v ∈ V, aheadB v u = true := by
  rcases h with rfl | ⟨W, w, rfl, hw⟩
  · intro v hv; cases hv
  · intro v hv
    rcases List.mem_append.1 hv with hv | hv
    · exact up hw ((List.pairwise_append.1 hs).2.2 v hv w (by simp))
    · rw [List.mem_singleton.1 hv]; exact hw
theorem cutR {V : List S60} {u : S60} (hs : Sorted V) (h : V = [] ∨ ∃ w W, V = w :: W ∧ aheadB w u = false) : ∀ v ∈ V, aheadB v u = false := by
  rcases h with rfl | ⟨w, W, rfl, hw⟩
  · intro v hv; cases hv
  · intro v hv
    rcases List.mem_cons.1 hv with rfl | hv
    · exact hw
    · exact nt ((List.pairwise_cons.1 hs).1 v hv) hw
theorem rd_mid (P : List S60) (x : S60) (Q xs : List S60) (i : Int) (h : xs = P ++ x :: Q) (hi : i = P.length) : rd_T60 xs i = x := by
  rw [h]; exact rd_at P x Q i hi
theorem last_of (V : List S60) (h : 0 < V.length) : ∃ W w, V = W ++ [w] := by
  rcases List.eq_nil_or_concat V with rfl | ⟨W, w, hV⟩
  · exact absurd h (by simp)
  · exact ⟨W, w, by rw [hV, List.concat_eq_append]⟩
theorem first_of (V : List S60) (h : 0 < V.length) : ∃ w W, V = w :: W := by
  cases V with
  | nil => exact absurd h (by simp)
  | cons w W => exact ⟨w, W, rfl⟩
theorem split_at (V : List S60) (n : Nat) (h : n ≤ V.length) : ∃ V1 V2, V = V1 ++ V2 ∧ V1.length = n :=
  ⟨V.take n, V.drop n, (List.take_append_drop _ _).symm, by rw [List.length_take]; omega⟩
/-- One element before a sorted run. -/
theorem merge_one (A V C : List S60) (u : S60) (a lo hi : Int) (hV : Sorted V) (ha : a = A.length) (hlo : lo = ((A.length + 1 : Nat) : Int)) (hhi : hi = ((A.length + 1 + V.length : Nat) : Int)) (hl : (A ++ u :: (V ++ C)).length ≤ 1000) :
    Ev (fun k => impl_Sample_63.l0 k (A ++ u :: (V ++ C)) a lo hi = some (A ++ (isort V [u] ++ C))) := by
  subst ha hlo hhi
  have hlen : (A ++ u :: (V ++ C)).length = A.length + 1 + V.length + C.length := by simp only [List.length_append, List.length_cons]; omega
  obtain ⟨s, h1, h2, h3, h4, h5⟩ := search0 (A ++ u :: (V ++ C)) A.length (A.length + 1) (A.length + 1 + V.length) (by omega) (by omega) (by omega) hl
  refine h5 _ ?_
  clear h5
  have hb : A.length + 1 + V.length + C.length ≤ 1000 := by omega
  clear hlen hl
  obtain ⟨V1, V2, rfl, hv⟩ := split_at V (s - (A.length + 1)) (by omega)
  rw [rd_at A u _ (A.length : Int) rfl] at h3 h4
  rw [List.length_append] at h2 h4 hb
  have hV' := List.pairwise_append.1 hV
  have g1 : ∀ v ∈ V1, aheadB v u = true := by
    refine cutL hV'.1 ?_
    rcases Nat.eq_zero_or_pos V1.length with h0 | h0
    · exact .inl (List.length_eq_zero_iff.1 h0)
    · obtain ⟨W, w, hW⟩ := last_of V1 h0
      refine .inr ⟨W, w, hW, ?_⟩
      rcases h3 with h3 | h3
      · omega
      · have hw : V1.length = W.length + 1 := by rw [hW]; simp
        rwa [rd_mid (A ++ u :: W) w (V2 ++ C) _ _ (by rw [hW]; simp) (by rw [List.length_append, List.length_cons]; omega)] at h3
  have g2 : ∀ v ∈ V2, aheadB v u = false := by
    refine cutR hV'.2.1 ?_
    rcases Nat.eq_zero_or_pos V2.length with h0 | h0
    · exact .inl (List.length_eq_zero_iff.1 h0)
    · obtain ⟨w, W, hW⟩ := first_of V2 h0
      refine .inr ⟨w, W, hW, ?_⟩
      rcases h4 with h4 | h4
      · omega
      · rwa [rd_mid (A ++ u :: V1) w (W ++ C) _ _ (by rw [hW]; simp) (by rw [List.length_append, List.length_cons]; omega)] at h4
  have e : isort (V1 ++ V2) [u] = V1 ++ u :: V2 := by
    have c := isort_cut [] [u] V1 V2 (fun v hv x hx => by rw [List.mem_singleton.1 hx]; exact g1 v hv) (fun v _ x hx => by cases hx) hV
    have e2 : isort V2 [u] = [u] ++ V2 := isort_id V2 [u] (List.pairwise_cons.2 ⟨g2, hV'.2.1⟩)
    have e1 : isort V1 [] = V1 := isort_id V1 [] hV'.1
    rw [e1, e2] at c
    exact c
  have hr := rot_one u (V2 ++ C) s (by omega) V1 A (by omega)
  rw [e]
  have e3 : A ++ u :: (V1 ++ V2 ++ C) = A ++ u :: (V1 ++ (V2 ++ C)) := by simp
  have e4 : A ++ (V1 ++ u :: V2 ++ C) = A ++ (V1 ++ u :: (V2 ++ C)) := by simp
  rw [e3, e4]
  exact hr
/-- One element behind a sorted run. -/
theorem merge_back (A U C : List S60) (v : S60) (a m : Int) (hU : Sorted U) (ha : a = A.length) (hm : m = ((A.length + U.length : Nat) : Int)) (hl : (A ++ (U ++ v :: C)).length ≤ 1000) :
    Ev (fun k => impl_Sample_63.l2 k (A ++ (U ++ v :: C)) m a m = some (A ++ (isort [v] U ++ C))) := by
  subst ha hm
  have hlen : (A ++ (U ++ v :: C)).length = A.length + U.length + 1 + C.length := by simp only [List.length_append, List.length_cons]; omega
  obtain ⟨s, h1, h2, h3, h4, h5⟩ := search2 (A ++ (U ++ v :: C)) (A.length + U.length) A.length (A.length + U.length) (by omega) (by omega) (by omega) hl
  refine h5 _ ?_
  clear h5
  have hb : A.length + U.length + 1 + C.length ≤ 1000 := by omega
  clear hlen hl
  rw [rd_mid (A ++ U) v C _ ((A.length + U.length : Nat) : Int) (by simp) (by rw [List.length_append])] at h3 h4
  obtain ⟨U1, U2, rfl, hu⟩ := split_at U (s - A.length) (by omega)
  rw [List.length_append] at h2 h4 hb ⊢
  have hU' := List.pairwise_append.1 hU
  have g1 : ∀ u ∈ U1, aheadB v u = false := by
    rcases Nat.eq_zero_or_pos U1.length with h0 | h0
    · rw [List.length_eq_zero_iff.1 h0]; intro u hu; cases hu
    · obtain ⟨W, w, hW⟩ := last_of U1 h0
      have hw : U1.length = W.length + 1 := by rw [hW]; simp
      rcases h3 with h3 | h3
      · omega
      · rw [rd_mid (A ++ W) w (U2 ++ v :: C) _ _ (by rw [hW]; simp) (by rw [List.length_append]; omega)] at h3
        have h3' : aheadB v w = false := by simpa using h3
        intro u hu
        rw [hW] at hu hU'
        rcases List.mem_append.1 hu with hu | hu
        · exact nt h3' ((List.pairwise_append.1 hU'.1).2.2 u hu w (by simp))
        · rw [List.mem_singleton.1 hu]; exact h3'
  have g2 : ∀ u ∈ U2, aheadB v u = true := by
    rcases Nat.eq_zero_or_pos U2.length with h0 | h0
    · rw [List.length_eq_zero_iff.1 h0]; intro u hu; cases hu
    · obtain ⟨w, W, hW⟩ := first_of U2 h0
      rcases h4 with h4 | h4
      · omega
      · rw [rd_mid (A ++ U1) w (W ++ v :: C) _ _ (by rw [hW]; simp) (by rw [List.length_append]; omega)] at h4
        have h4' : aheadB v w = true := by simpa using h4
        intro u hu
        rw [hW] at hu hU'
        rcases List.mem_cons.1 hu with rfl | hu
        · exact h4'
        · exact down h4' ((List.pairwise_cons.1 hU'.2.1).1 u hu)
  have e : isort [v] (U1 ++ U2) = U1 ++ v :: U2 := by
    show ins v (U1 ++ U2) = _
    have e2 : ins v U2 = v :: U2 := ins_left v [] U2 g2
    rw [ins_right v U1 U2 g1, e2]
  have hr := rot_back v (A ++ U1) U2.length U2 C rfl (by rw [List.length_append]; omega)
  rw [e]
  have e3 : A ++ (U1 ++ U2 ++ v :: C) = A ++ U1 ++ (U2 ++ v :: C) := by simp
  have e4 : A ++ (U1 ++ v :: U2 ++ C) = A ++ U1 ++ v :: (U2 ++ C) := by simp
  rw [List.length_append] at hr
  have e5 : A.length + U1.length = s := by omega
  have e6 : s + U2.length = A.length + (U1.length + U2.length) := by omega
  rw [e5, e6] at hr
  rw [e3, e4]
  exact hr
theorem j8_ev (X Y Z : List S60) (a b d mid s e : Int) (flag : Bool) (h1 : flag = true → Ev (fun k => impl_Sample_63.f k X a s mid d = some Y)) (h1' : flag = false → X = Y)
    (h2 : mid < e → e < b → Ev (fun k => impl_Sample_63.f k Y mid e b d = some Z)) (h2' : ¬ (mid < e ∧ e < b) → Y = Z) : Ev (fun k => impl_Sample_63.j8 k X a b d mid s e flag = some Z) := by
  have t : Ev (fun k => (if mid < e then (if e < b then ((impl_Sample_63.f k Y mid e b d).bind fun t202 => (some t202)) else (some Y)) else (some Y)) = some Z) := by
    by_cases c1 : mid < e
    · by_cases c2 : e < b
      · refine (h2 c1 c2).mono fun k hk => ?_
        rw [if_pos c1, if_pos c2, hk]; rfl
      · refine Ev.of fun k => ?_
        rw [if_pos c1, if_neg c2, h2' (fun h => c2 h.2)]
    · refine Ev.of fun k => ?_
      rw [if_neg c1, h2' (fun h => c1 h.1)]
  cases flag
  · obtain rfl := h1' rfl
    refine t.step fun k hk => ?_
    rw [impl_Sample_63.j8, if_neg (by simp)]
    exact hk
  · refine ((h1 rfl).and t).step fun k hk => ?_
    rw [impl_Sample_63.j8, if_pos rfl, hk.1, Option.bind_some]
    exact hk.2
theorem j7_ev (X Y Z : List S60) (a b d mid s e : Int) (h1 : a < s → s < mid → Ev (fun k => impl_Sample_63.f k X a s mid d = some Y)) (h1' : ¬ (a < s ∧ s < mid) → X = Y)
    (h2 : mid < e → e < b → Ev (fun k => impl_Sample_63.f k Y mid e b d = some Z)) (h2' : ¬ (mid < e ∧ e < b) → Y = Z) : Ev (fun k => impl_Sample_63.j7 k X a b d mid s e = some Z) := by
  by_cases c1 : a < s
  · refine (j8_ev X Y Z a b d mid s e (decide (s < mid)) (fun h => h1 c1 (of_decide_eq_true h)) (fun h => h1' fun h' => absurd h'.2 (of_decide_eq_false h)) h2 h2').step fun k hk => ?_
    rw [impl_Sample_63.j7, if_pos c1]; exact hk
  · refine (j8_ev X Y Z a b d mid s e false (fun h => by cases h) (fun _ => h1' fun h' => c1 h'.1) h2 h2').step fun k hk => ?_
    rw [impl_Sample_63.j7, if_neg c1]; exact hk
theorem j6_ev (W X Z : List S60) (a m b d mid s e : Int) (h0 : s < m → m < e → Ev (fun k => impl_Sample_75.f k W s m e d = some X)) (h0' : ¬ (s < m ∧ m < e) → W = X) (h : Ev (fun k => impl_Sample_63.j7 k X a b d mid s e = some Z)) :
    Ev (fun k => (if s < m then impl_Sample_63.j6 k W a m b d mid s e (decide (m < e)) else impl_Sample_63.j6 k W a m b d mid s e false) = some Z) := by
  by_cases c1 : s < m
  · by_cases c2 : m < e
    · refine ((h0 c1 c2).and h).step fun k hk => ?_
      rw [if_pos c1, decide_eq_true c2, impl_Sample_63.j6, if_pos rfl, hk.1, Option.bind_some]
      exact hk.2
    · obtain rfl := h0' fun h => c2 h.2
      refine h.step fun k hk => ?_
      rw [if_pos c1, decide_eq_false c2, impl_Sample_63.j6, if_neg (by simp)]
      exact hk
  · obtain rfl := h0' fun h => c1 h.1
    refine h.step fun k hk => ?_
    rw [if_neg c1, impl_Sample_63.j6, if_neg (by simp)]
    exact hk
theorem search4 (xs : List S60) (a b m mid n p lo hi : Nat) (d : Int) (hlh : lo ≤ hi) (hp : n = p + 1) (h1 : hi ≤ xs.length) (h2 : hi ≤ p + 1) (h3 : p < xs.length + lo) (hl : xs.length ≤ 1000) :
    ∃ s, lo ≤ s ∧ s ≤ hi ∧ (s = lo ∨ (!aheadB (rd_T60 xs ((p - (s - 1) : Nat) : Int)) (rd_T60 xs ((s - 1 : Nat) : Int))) = true) ∧ (s = hi ∨ (!aheadB (rd_T60 xs ((p - s : Nat) : Int)) (rd_T60 xs (s : Int))) = false) ∧
      ∀ r, Ev (fun k => (if (s : Int) < (m : Int) then impl_Sample_63.j6 k xs (a : Int) (m : Int) (b : Int) d (mid : Int) (s : Int) ((n - s : Nat) : Int) (decide ((m : Int) < ((n - s : Nat) : Int))) else impl_Sample_63.j6 k xs (a : Int) (m : Int) (b : Int) d (mid : Int) (s : Int) ((n - s : Nat) : Int) false) = some r) →
        Ev (fun k => impl_Sample_63.l4 k xs (a : Int) (m : Int) (b : Int) d (mid : Int) (n : Int) (lo : Int) (hi : Int) (p : Int) = some r) := by
  refine search (fun k i j => impl_Sample_63.l4 k xs (a : Int) (m : Int) (b : Int) d (mid : Int) (n : Int) (i : Int) (j : Int) (p : Int)) (fun k s => if (s : Int) < (m : Int) then impl_Sample_63.j6 k xs (a : Int) (m : Int) (b : Int) d (mid : Int) (s : Int) ((n - s : Nat) : Int) (decide ((m : Int) < ((n - s : Nat) : Int))) else impl_Sample_63.j6 k xs (a : Int) (m : Int) (b : Int) d (mid : Int) (s : Int) ((n - s : Nat) : Int) false) lo hi (fun h => !aheadB (rd_T60 xs ((p - h : Nat) : Int)) (rd_T60 xs (h : Int))) ?_ ?_ (hi - lo) lo hi (Nat.le_refl _) hlh (Nat.le_refl _) (Nat.le_refl _) (.inl rfl) (.inl rfl)
  · intro k i j hk g1 g2 g3
    show impl_Sample_63.l4 (k + 1) xs (a : Int) (m : Int) (b : Int) d (mid : Int) (n : Int) (i : Int) (j : Int) (p : Int) = _
    have hh : i ≤ (i + j) / 2 ∧ (i + j) / 2 < j := by omega
    rw [impl_Sample_63.l4, mid_n i j (by omega)]
    generalize (i + j) / 2 = h at hh ⊢
    obtain ⟨c, hc, hlt⟩ := cmp_lt (rd_T60 xs ((p - h : Nat) : Int)) (rd_T60 xs (h : Int))
    rw [wn ((p : Int) - (h : Int)) (p - h) (by omega) (by omega), if_pos (by omega), if_pos (by omega), if_pos (by omega), if_pos (by omega), if_pos (by omega), hc k hk, Option.bind_some, wn ((h : Int) + 1) (h + 1) (by omega) (by omega)]
    by_cases hc0 : c < 0
    · rw [if_pos hc0, if_neg (by rw [hlt.1 hc0]; simp)]
    · have h' : aheadB (rd_T60 xs ((p - h : Nat) : Int)) (rd_T60 xs (h : Int)) = false := by
        cases e : aheadB (rd_T60 xs ((p - h : Nat) : Int)) (rd_T60 xs (h : Int))
        · rfl
        · exact absurd (hlt.2 e) hc0
      rw [if_neg hc0, if_pos (by rw [h']; rfl)]
  · intro k i g1 g2
    show impl_Sample_63.l4 (k + 1) xs (a : Int) (m : Int) (b : Int) d (mid : Int) (n : Int) (i : Int) (i : Int) (p : Int) = _
    rw [impl_Sample_63.l4, if_neg (by omega), wn ((n : Int) - (i : Int)) (n - i) (by omega) (by omega)]
/-- Where the search ends, the two runs are cut. -/
theorem cut_at (A U V C xs : List S60) (hxs : xs = A ++ (U ++ (V ++ C))) (hU : Sorted U) (hV : Sorted V) (p n lo hi s m b : Nat) (hm : m = A.length + U.length) (hb : b = m + V.length) (hn : n = p + 1)
    (hlo1 : A.length ≤ lo) (hlo2 : lo = A.length ∨ lo = n - b) (hhi1 : hi ≤ m) (hhi2 : hi = m ∨ hi = n - m) (hlo3 : n ≤ lo + b) (hhi3 : hi + m ≤ n) (h1 : lo ≤ s) (h2 : s ≤ hi)
    (h3 : s = lo ∨ (!aheadB (rd_T60 xs ((p - (s - 1) : Nat) : Int)) (rd_T60 xs ((s - 1 : Nat) : Int))) = true) (h4 : s = hi ∨ (!aheadB (rd_T60 xs ((p - s : Nat) : Int)) (rd_T60 xs (s : Int))) = false) :
    ∃ U1 U2 V1 V2, U = U1 ++ U2 ∧ V = V1 ++ V2 ∧ U1.length = s - A.length ∧ U2.length = m - s ∧ V1.length = n - s - m ∧ V2.length = b - (n - s) ∧ (∀ v ∈ V1, ∀ u ∈ U2, aheadB v u = true) ∧ (∀ v ∈ V2, ∀ u ∈ U1, aheadB v u = false) := by
  obtain ⟨U1, U2, rfl, hu⟩ := split_at U (s - A.length) (by omega)
  obtain ⟨V1, V2, rfl, hv⟩ := split_at V (n - s - m) (by omega)
  rw [List.length_append] at hm hb
  have hU' := List.pairwise_append.1 hU
  have hV' := List.pairwise_append.1 hV
  refine ⟨U1, U2, V1, V2, rfl, rfl, hu, by omega, hv, by omega, ?_, ?_⟩
  · rcases Nat.eq_zero_or_pos U2.length with h0 | h0
    · rw [List.length_eq_zero_iff.1 h0]; intro v _ u hu; cases hu
    rcases Nat.eq_zero_or_pos V1.length with h0' | h0'
    · rw [List.length_eq_zero_iff.1 h0']; intro v hv; cases hv
    obtain ⟨x, X, hX⟩ := first_of U2 h0
    obtain ⟨W, w, hW⟩ := last_of V1 h0'
    have hWl : V1.length = W.length + 1 := by rw [hW]; simp
    rcases h4 with h4 | h4
    · omega
    · rw [rd_mid (A ++ (U1 ++ U2) ++ W) w (V2 ++ C) xs _ (by rw [hxs, hW]; simp) (by simp only [List.length_append]; omega), rd_mid (A ++ U1) x (X ++ (V1 ++ V2 ++ C)) xs _ (by rw [hxs, hX]; simp) (by simp only [List.length_append]; omega)] at h4
      have h4' : aheadB w x = true := by simpa using h4
      intro v hv u hu
      have g := cutL hV'.1 (.inr ⟨W, w, hW, h4'⟩) v hv
      rw [hX] at hu hU'
      rcases List.mem_cons.1 hu with rfl | hu
      · exact g
      · exact down g ((List.pairwise_cons.1 hU'.2.1).1 u hu)
  · rcases Nat.eq_zero_or_pos U1.length with h0 | h0
    · rw [List.length_eq_zero_iff.1 h0]; intro v _ u hu; cases hu
    rcases Nat.eq_zero_or_pos V2.length with h0' | h0'
    · rw [List.length_eq_zero_iff.1 h0']; intro v hv; cases hv
    obtain ⟨X, x, hX⟩ := last_of U1 h0
    obtain ⟨w, W, hW⟩ := first_of V2 h0'
    have hXl : U1.length = X.length + 1 := by rw [hX]; simp
    rcases h3 with h3 | h3
    · omega
    · rw [rd_mid (A ++ (U1 ++ U2) ++ V1) w (W ++ C) xs _ (by rw [hxs, hW]; simp) (by simp only [List.length_append]; omega), rd_mid (A ++ X) x (U2 ++ (V1 ++ V2 ++ C)) xs _ (by rw [hxs, hX]; simp) (by simp only [List.length_append]; omega)] at h3
      have h3' : aheadB w x = false := by simpa using h3
      intro v hv u hu
      have g := cutR hV'.2.1 (.inr ⟨w, W, hW, h3'⟩) v hv
      rw [hX] at hu hU'
      rcases List.mem_append.1 hu with hu | hu
      · exact nt g ((List.pairwise_append.1 hU'.1).2.2 u hu x (by simp))
      · rw [List.mem_singleton.1 hu]; exact g
theorem merge_core (d : Int) (n : Nat) (rec : ∀ (A U V C : List S60) (a m b : Int), U.length + V.length ≤ n → 0 < U.length → 0 < V.length → Sorted U → Sorted V → a = A.length → m = ((A.length + U.length : Nat) : Int) → b = ((A.length + U.length + V.length : Nat) : Int) → A.length + U.length + V.length + C.length ≤ 1000 →
      Ev (fun k => impl_Sample_63.f k (A ++ (U ++ (V ++ C))) a m b d = some (A ++ (isort V U ++ C))))
    (A U V C : List S60) (m b mid nn p lo hi : Nat) (hn : U.length + V.length ≤ n + 1) (hU : Sorted U) (hV : Sorted V) (hm : m = A.length + U.length) (hb : b = m + V.length) (hl : b + C.length ≤ 1000) (hnn : nn = mid + m) (hp : nn = p + 1)
    (hmid1 : A.length < mid) (hmid2 : mid < b) (hlh : lo ≤ hi) (hlo1 : A.length ≤ lo) (hlo2 : lo = A.length ∨ lo = nn - b) (hhi1 : hi ≤ m) (hhi2 : hi = m ∨ hi = nn - m) (hlo3 : nn ≤ lo + b) (hhi3 : hi + m ≤ nn) :
    Ev (fun k => impl_Sample_63.j4 k (A ++ (U ++ (V ++ C))) (A.length : Int) (m : Int) (b : Int) d (mid : Int) (nn : Int) (lo : Int) (hi : Int) = some (A ++ (isort V U ++ C))) := by
  obtain ⟨xs, hxs⟩ : ∃ xs, xs = A ++ (U ++ (V ++ C)) := ⟨_, rfl⟩
  have hlen : xs.length = b + C.length := by rw [hxs]; simp only [List.length_append]; omega
  obtain ⟨s, h1, h2, h3, h4, h5⟩ := search4 xs A.length b m mid nn p lo hi d hlh hp (by omega) (by omega) (by omega) (by omega)
  obtain ⟨U1, U2, V1, V2, hU12, hV12, l1, l2, l3, l4, g1, g2⟩ := cut_at A U V C xs hxs hU hV p nn lo hi s m b hm hb hp hlo1 hlo2 hhi1 hhi2 hlo3 hhi3 h1 h2 h3 h4
  clear h3 h4
  subst hU12 hV12
  have hU' := List.pairwise_append.1 hU
  have hV' := List.pairwise_append.1 hV
  rw [List.length_append] at hm hb
  rw [List.length_append, List.length_append] at hn
  have m1 : (isort V1 U1).length = V1.length + U1.length := isort_length V1 U1
  have eZ : A ++ (isort (V1 ++ V2) (U1 ++ U2) ++ C) = A ++ isort V1 U1 ++ (isort V2 U2 ++ C) := by rw [isort_cut U1 U2 V1 V2 g1 g2 hV]; simp
  have eY : A ++ (isort V1 U1 ++ (U2 ++ (V2 ++ C))) = A ++ isort V1 U1 ++ (U2 ++ (V2 ++ C)) := by simp
  have eW : A ++ (U1 ++ U2 ++ (V1 ++ V2 ++ C)) = A ++ U1 ++ (U2 ++ (V1 ++ (V2 ++ C))) := by simp
  have eX : A ++ (U1 ++ (V1 ++ (U2 ++ (V2 ++ C)))) = A ++ U1 ++ (V1 ++ (U2 ++ (V2 ++ C))) := by simp
  rw [← hxs]
  have key := h5 (A ++ (isort (V1 ++ V2) (U1 ++ U2) ++ C)) (j6_ev xs (A ++ (U1 ++ (V1 ++ (U2 ++ (V2 ++ C))))) (A ++ (isort (V1 ++ V2) (U1 ++ U2) ++ C)) (A.length : Int) (m : Int) (b : Int) d (mid : Int) (s : Int) ((nn - s : Nat) : Int)
    (fun q1 q2 => by
      rw [hxs, eW, eX]
      exact rot_f (A ++ U1) U2 V1 (V2 ++ C) _ _ _ d (by omega) (by omega) (by rw [List.length_append]; omega) (by rw [List.length_append]; omega) (by rw [List.length_append]; omega) (by rw [List.length_append]; omega))
    (fun q => by
      rw [hxs, eW, eX]
      rcases Nat.eq_zero_or_pos U2.length with h0 | h0
      · rw [List.length_eq_zero_iff.1 h0]; rfl
      · have h0' : V1.length = 0 := by omega
        rw [List.length_eq_zero_iff.1 h0']; rfl)
    (j7_ev (A ++ (U1 ++ (V1 ++ (U2 ++ (V2 ++ C))))) (A ++ (isort V1 U1 ++ (U2 ++ (V2 ++ C)))) (A ++ (isort (V1 ++ V2) (U1 ++ U2) ++ C)) (A.length : Int) (b : Int) d (mid : Int) (s : Int) ((nn - s : Nat) : Int)
      (fun q1 q2 => rec A U1 V1 (U2 ++ (V2 ++ C)) _ _ _ (by omega) (by omega) (by omega) hU'.1 hV'.1 rfl (by omega) (by omega) (by rw [List.length_append, List.length_append]; omega))
      (fun q => by
        rcases Nat.eq_zero_or_pos U1.length with h0 | h0
        · have e := isort_id V1 [] hV'.1
          rw [List.length_eq_zero_iff.1 h0, e]; rfl
        · have h0' : V1.length = 0 := by omega
          rw [List.length_eq_zero_iff.1 h0']; rfl)
      (fun q1 q2 => by
        rw [eZ, eY]
        exact rec (A ++ isort V1 U1) U2 V2 C _ _ _ (by omega) (by omega) (by omega) hU'.2.1 hV'.2.1 (by rw [List.length_append, m1]; omega) (by rw [List.length_append, m1]; omega) (by rw [List.length_append, m1]; omega) (by rw [List.length_append, m1]; omega))
      (fun q => by
        rw [eZ, eY]
        rcases Nat.eq_zero_or_pos U2.length with h0 | h0
        · have e := isort_id V2 [] hV'.2.1
          rw [List.length_eq_zero_iff.1 h0, e]; rfl
        · have h0' : V2.length = 0 := by omega
          rw [List.length_eq_zero_iff.1 h0']; rfl)))
  refine key.step fun k hk => ?_
  rw [impl_Sample_63.j4, wn ((nn : Int) - 1) p (by omega) (by omega)]
  exact hk
theorem merge_f (d : Int) : ∀ (n : Nat) (A U V C : List S60) (a m b : Int), U.length + V.length ≤ n → 0 < U.length → 0 < V.length → Sorted U → Sorted V → a = A.length → m = ((A.length + U.length : Nat) : Int) → b = ((A.length + U.length + V.length : Nat) : Int) → A.length + U.length + V.length + C.length ≤ 1000 →
    Ev (fun k => impl_Sample_63.f k (A ++ (U ++ (V ++ C))) a m b d = some (A ++ (isort V U ++ C)))
  | 0, A, U, V, C, a, m, b, hn, hu, hv, hU, hV, ha, hm, hb, hl => by omega
  | n + 1, A, U, V, C, a, m, b, hn, hu, hv, hU, hV, ha, hm, hb, hl => by
    subst ha hm hb
    have w1 := wn (((A.length + U.length : Nat) : Int) - (A.length : Int)) U.length (by omega) (by omega)
    have w2 := wn (((A.length + U.length + V.length : Nat) : Int) - ((A.length + U.length : Nat) : Int)) V.length (by omega) (by omega)
    by_cases c1 : U.length = 1
    · obtain ⟨u, hu1⟩ := List.length_eq_one_iff.1 c1
      have h := merge_one A V C u (A.length : Int) ((A.length + 1 : Nat) : Int) ((A.length + 1 + V.length : Nat) : Int) hV rfl rfl rfl (by clear w1 w2; simp only [List.length_append, List.length_cons]; omega)
      rw [c1] at w1
      refine h.step fun k hk => ?_
      rw [impl_Sample_63.f, c1, w1, if_pos (show ((1 : Nat) : Int) = 1 from rfl), hu1]
      exact hk
    · have n1 : ¬ ((U.length : Nat) : Int) = 1 := by clear w1 w2; omega
      by_cases c2 : V.length = 1
      · obtain ⟨v, hv1⟩ := List.length_eq_one_iff.1 c2
        have h := merge_back A U C v (A.length : Int) ((A.length + U.length : Nat) : Int) hU rfl rfl (by clear w1 w2; simp only [List.length_append, List.length_cons]; omega)
        rw [c2] at w2
        refine h.step fun k hk => ?_
        rw [impl_Sample_63.f, w1, if_neg n1, c2, w2, if_pos (show ((1 : Nat) : Int) = 1 from rfl), hv1]
        exact hk
      · have n2 : ¬ ((V.length : Nat) : Int) = 1 := by clear w1 w2; omega
        have w3 := mid_n A.length (A.length + U.length + V.length) (by clear w1 w2; omega)
        obtain ⟨mid, hmid⟩ : ∃ mid, mid = (A.length + (A.length + U.length + V.length)) / 2 := ⟨_, rfl⟩
        rw [← hmid] at w3
        by_cases c3 : mid < A.length + U.length
        · have h := merge_core d n (merge_f d n) A U V C (A.length + U.length) (A.length + U.length + V.length) mid (mid + (A.length + U.length)) (mid + (A.length + U.length) - 1) (mid + (A.length + U.length) - (A.length + U.length + V.length)) mid hn hU hV rfl rfl (by clear w1 w2 w3; omega) rfl (by clear w1 w2 w3; omega)
            (by clear w1 w2 w3; omega) (by clear w1 w2 w3; omega) (by clear w1 w2 w3; omega) (by clear w1 w2 w3; omega) (.inr rfl) (by clear w1 w2 w3; omega) (.inr (by clear w1 w2 w3; omega)) (by clear w1 w2 w3; omega) (by clear w1 w2 w3; omega)
          have n3 : ((A.length + U.length : Nat) : Int) > (mid : Int) := by clear w1 w2 w3; omega
          have w4 := wn ((mid : Int) + ((A.length + U.length : Nat) : Int)) (mid + (A.length + U.length)) (by clear w1 w2 w3; omega) (by clear w1 w2 w3; omega)
          have w5 := wn (((mid + (A.length + U.length) : Nat) : Int) - ((A.length + U.length + V.length : Nat) : Int)) (mid + (A.length + U.length) - (A.length + U.length + V.length)) (by clear w1 w2 w3 w4; omega) (by clear w1 w2 w3 w4; omega)
          refine h.step fun k hk => ?_
          rw [impl_Sample_63.f, w1, if_neg n1, w2, if_neg n2, w3, if_pos n3, w4, w5]
          exact hk
        · have h := merge_core d n (merge_f d n) A U V C (A.length + U.length) (A.length + U.length + V.length) mid (mid + (A.length + U.length)) (mid + (A.length + U.length) - 1) A.length (A.length + U.length) hn hU hV rfl rfl (by clear w1 w2 w3; omega) rfl (by clear w1 w2 w3; omega)
            (by clear w1 w2 w3; omega) (by clear w1 w2 w3; omega) (by clear w1 w2 w3; omega) (by clear w1 w2 w3; omega) (.inl rfl) (by clear w1 w2 w3; omega) (.inl rfl) (by clear w1 w2 w3; omega) (by clear w1 w2 w3; omega)
          have n3 : ¬ ((A.length + U.length : Nat) : Int) > (mid : Int) := by clear w1 w2 w3; omega
          have w4 := wn ((mid : Int) + ((A.length + U.length : Nat) : Int)) (mid + (A.length + U.length)) (by clear w1 w2 w3; omega) (by clear w1 w2 w3; omega)
          refine h.step fun k hk => ?_
          rw [impl_Sample_63.f, w1, if_neg n1, w2, if_neg n2, w3, if_neg n3, w4]
          exact hk
theorem st_l0 (d : Int) (s n : Nat) (hs : 0 < s ∧ s ≤ 600) (hn : n ≤ 800) (r : List S60) : ∀ (c : Nat) (D R : List S60), R.length ≤ c → D.length + R.length = n →
    Ev (fun k => impl_Sample_58.l1 k (D ++ blk s R) (n : Int) d (s : Int) = some r) →
    Ev (fun k => impl_Sample_58.l0 k (D ++ R) (n : Int) d (s : Int) (D.length : Int) ((D.length + s : Nat) : Int) = some r)
  | c, D, R, hc, hD, h => by
    rcases Nat.lt_or_ge R.length s with hlt | hge
    · have hi := ins_f D R [] d (D.length : Int) (n : Int) rfl (by omega) (by omega)
      rw [List.append_nil, List.append_nil] at hi
      rw [blk_short s R (by omega)] at h
      refine (hi.and h).step fun k hk => ?_
      rw [impl_Sample_58.l0, if_neg (by omega), hk.1, Option.bind_some]
      exact hk.2
    · match c, hc with
      | 0, hc => omega
      | c + 1, hc =>
        obtain ⟨R1, R2, rfl, h1⟩ := split_at R s hge
        rw [List.length_append] at hD hc
        have hi := ins_f D R1 R2 d (D.length : Int) ((D.length + s : Nat) : Int) rfl (by omega) (by omega)
        rw [blk_cons s hs.1 R1 R2 h1] at h
        have m1 : (isort R1 []).length = s := by rw [isort_length, h1]; rfl
        have e1 : D ++ (isort R1 [] ++ blk s R2) = D ++ isort R1 [] ++ blk s R2 := by simp
        rw [e1] at h
        have ih := st_l0 d s n hs hn r c (D ++ isort R1 []) R2 (by omega) (by rw [List.length_append, m1]; omega) h
        have e2 : D ++ isort R1 [] ++ R2 = D ++ (isort R1 [] ++ R2) := by simp
        rw [List.length_append, m1, e2] at ih
        refine (hi.and ih).step fun k hk => ?_
        rw [impl_Sample_58.l0, if_pos (by omega), hk.1, Option.bind_some, wn (((D.length + s : Nat) : Int) + (s : Int)) (D.length + s + s) (by omega) (by omega)]
        exact hk.2
theorem st_l2 (d : Int) (s n : Nat) (hs : 0 < s ∧ s ≤ 600) (hn : n ≤ 800) (r : List S60) : ∀ (c : Nat) (D R : List S60), R.length ≤ c → D.length + R.length = n →
    Ev (fun k => impl_Sample_58.l1 k (D ++ blk (s * 2) R) (n : Int) d ((s * 2 : Nat) : Int) = some r) →
    Ev (fun k => impl_Sample_58.l2 k (D ++ blk s R) (n : Int) d (s : Int) (D.length : Int) ((D.length + s * 2 : Nat) : Int) = some r)
  | c, D, R, hc, hD, h => by
    rcases Nat.lt_or_ge R.length (s * 2) with hlt | hge
    · rcases Nat.lt_or_ge s R.length with hlt2 | hge2
      · obtain ⟨R1, R2, rfl, h1⟩ := split_at R s (by omega)
        rw [List.length_append] at hD hlt hlt2
        have m1 : (isort R1 []).length = s := by rw [isort_length, h1]; rfl
        have m2 : (isort R2 []).length = R2.length := by rw [isort_length]; rfl
        have hm := merge_f d (s + R2.length) D (isort R1 []) (isort R2 []) [] (D.length : Int) ((D.length + s : Nat) : Int) (n : Int) (by omega) (by omega) (by omega) (isort_sorted _ _ nil_sorted) (isort_sorted _ _ nil_sorted) rfl (by rw [m1]) (by rw [m1, m2]; omega) (by rw [m1, m2, List.length_nil]; omega)
        rw [blk_two, List.append_nil, List.append_nil] at hm
        rw [blk_short (s * 2) (R1 ++ R2) (by rw [List.length_append]; omega)] at h
        rw [blk_cons s hs.1 R1 R2 h1, blk_short s R2 (by omega)]
        refine (hm.and h).step fun k hk => ?_
        rw [impl_Sample_58.l2, if_neg (by omega), wn ((D.length : Int) + (s : Int)) (D.length + s) (by omega) (by omega), if_pos (by omega), hk.1, Option.bind_some, wn ((s : Int) * 2) (s * 2) (by omega) (by omega)]
        exact hk.2
      · rw [blk_short s R hge2]
        rw [blk_short (s * 2) R (by omega)] at h
        refine h.step fun k hk => ?_
        rw [impl_Sample_58.l2, if_neg (by omega), wn ((D.length : Int) + (s : Int)) (D.length + s) (by omega) (by omega), if_neg (by omega), wn ((s : Int) * 2) (s * 2) (by omega) (by omega)]
        exact hk
    · match c, hc with
      | 0, hc => omega
      | c + 1, hc =>
        obtain ⟨R1, R', rfl, h1⟩ := split_at R s (by omega)
        rw [List.length_append] at hD hc hge
        obtain ⟨R2, R3, rfl, h2⟩ := split_at R' s (by omega)
        rw [List.length_append] at hD hc hge
        have m1 : (isort R1 []).length = s := by rw [isort_length, h1]; rfl
        have m2 : (isort R2 []).length = s := by rw [isort_length, h2]; rfl
        have m3 : (isort (R1 ++ R2) []).length = s * 2 := by rw [isort_length, List.length_append, h1, h2, List.length_nil]; omega
        have m4 : (blk s R3).length = R3.length := blk_length s _ R3 (Nat.le_refl _)
        have hm := merge_f d (s + s) D (isort R1 []) (isort R2 []) (blk s R3) (D.length : Int) ((D.length + s : Nat) : Int) ((D.length + s * 2 : Nat) : Int) (by omega) (by omega) (by omega) (isort_sorted _ _ nil_sorted) (isort_sorted _ _ nil_sorted) rfl (by rw [m1]) (by rw [m1, m2]; omega) (by rw [m1, m2, m4]; omega)
        rw [blk_two] at hm
        have e0 : R1 ++ (R2 ++ R3) = (R1 ++ R2) ++ R3 := by simp
        have e1 : D ++ (isort (R1 ++ R2) [] ++ blk (s * 2) R3) = D ++ isort (R1 ++ R2) [] ++ blk (s * 2) R3 := by simp
        have e2 : D ++ isort (R1 ++ R2) [] ++ blk s R3 = D ++ (isort (R1 ++ R2) [] ++ blk s R3) := by simp
        rw [e0, blk_cons (s * 2) (by omega) (R1 ++ R2) R3 (by rw [List.length_append]; omega), e1] at h
        have ih := st_l2 d s n hs hn r c (D ++ isort (R1 ++ R2) []) R3 (by omega) (by rw [List.length_append, m3]; omega) h
        rw [List.length_append, m3, e2] at ih
        rw [blk_cons s hs.1 R1 (R2 ++ R3) h1, blk_cons s hs.1 R2 R3 h2]
        refine (hm.and ih).step fun k hk => ?_
        rw [impl_Sample_58.l2, if_pos (by omega), wn ((D.length : Int) + (s : Int)) (D.length + s) (by omega) (by omega), hk.1, Option.bind_some, wn (2 * (s : Int)) (s * 2) (by omega) (by omega), wn (((D.length + s * 2 : Nat) : Int) + ((s * 2 : Nat) : Int)) (D.length + s * 2 + s * 2) (by omega) (by omega)]
        exact hk.2
theorem st_l1 (d : Int) (R : List S60) (hn : R.length ≤ 300) : ∀ (c s : Nat), R.length ≤ s + c → 0 < s → s ≤ 600 → Ev (fun k => impl_Sample_58.l1 k (blk s R) (R.length : Int) d (s : Int) = some (isort R []))
  | c, s, hc, hs, hs2 => by
    rcases Nat.lt_or_ge s R.length with hlt | hge
    · match c, hc with
      | 0, hc => omega
      | c + 1, hc =>
        have ih := st_l1 d R hn c (s * 2) (by omega) (by omega) (by omega)
        have h := st_l2 d s R.length ⟨hs, hs2⟩ (by omega) (isort R []) R.length [] R (Nat.le_refl _) (by rw [List.length_nil]; omega) ih
        refine h.step fun k hk => ?_
        rw [impl_Sample_58.l1, if_pos (by omega), wn (2 * (s : Int)) (0 + s * 2) (by omega) (by omega)]
        exact hk
    · refine ⟨1, fun k hk => ?_⟩
      obtain ⟨m, rfl⟩ : ∃ m, k = m + 1 := ⟨k - 1, by omega⟩
      rw [impl_Sample_58.l1, if_neg (by omega), blk_short s R hge]
/-- The program's SortSamples is sorting by insertion. -/
theorem sort_impl (l : List S60) : Ev (fun k => impl_SortSamples.f k l = some (if (l.length : Int) > 300 then [] else isort l [])) := by
  by_cases h : (l.length : Int) > 300
  · refine Ev.of fun k => ?_
    unfold impl_SortSamples.f
    rw [if_pos h, if_pos h]
  · have hl : l.length ≤ 300 := by omega
    have h0 := st_l0 0 20 l.length (by omega) (by omega) (isort l []) l.length [] l (Nat.le_refl _) (by rw [List.length_nil]; omega) (st_l1 0 l hl 300 20 (by omega) (by omega) (by omega))
    refine h0.mono fun k hk => ?_
    unfold impl_SortSamples.f impl_Sample_45.f impl_Sample_46.f impl_Sample_58.f
    rw [if_neg h, if_neg h, Option.bind_some, if_pos (by rw [List.length_nil]; omega), Option.bind_some]
    have hk' : impl_Sample_58.l0 k l (l.length : Int) 0 20 0 20 = some (isort l []) := hk
    rw [List.nil_append, hk']
    rfl
theorem law_j0 (l : List S58) (hl : l.length ≤ 1048576) (p : List S60) (hp : p.length ≤ 300) (k : Nat) (hk : 1100000 ≤ k) (hi : impl_SortSamples.f k (l.map conv) = some p) : laws_FnExactSortSamples.j0 (k + 1) l p p false = some true := by
  rw [laws_FnExactSortSamples.j0, if_neg (by simp), marks_f p (by omega) k (by omega)]
  simp only [Option.bind_some]
  rw [held_f p (by omega) k (by omega)]
  simp only [Option.bind_some]
  rw [if_neg (by omega), if_pos trivial, toSampleS_same l hl k (by omega)]
  simp only [Option.bind_some]
  rw [hi]
  simp only [Option.bind_some]
  rw [eqSampleS_same p (by omega) k (by omega)]
  simp only [Option.bind_some]
  rw [if_pos trivial, if_neg (by omega), if_pos trivial]
theorem law_SortSamples (l : List S58) (hf : Fit l) (hm : l.length ≤ 9223372036854775807) : ∃ k, laws_FnExactSortSamples.f k l = some true := by
  obtain ⟨K, hK⟩ := sort_impl (l.map conv)
  obtain ⟨k, hk1, hk2⟩ : ∃ k, K ≤ k ∧ 3000000 ≤ k := ⟨K + 3000000, by omega, by omega⟩
  refine ⟨k + 1, ?_⟩
  unfold laws_FnExactSortSamples.f
  obtain ⟨r, hr, hor⟩ := szSampleS_some l hf hm (k + 1) (by omega)
  rw [hr]
  simp only [Option.bind_some]
  by_cases h : r < 0
  · rw [if_pos h]
  · rw [if_neg h]
    rcases hor with hor | ⟨hl, hsh⟩
    · exact absurd hor h
    have hsl : ∀ x ∈ l.map conv, Shrt x := by
      intro x hx
      obtain ⟨y, hy, rfl⟩ := List.mem_map.1 hx
      exact hsh y hy
    have hlc : (l.map conv).length ≤ 1048576 := by rw [List.length_map]; exact hl
    rw [toSampleS_same l hl (k + 1) (by omega)]
    simp only [Option.bind_some]
    rw [sort_spec (l.map conv) hsl (k + 1) (by omega), hK (k + 1) (by omega)]
    have hi := hK k hk1
    obtain ⟨p, hp⟩ : ∃ p, p = if ((l.map conv).length : Int) > 300 then [] else isort (l.map conv) [] := ⟨_, rfl⟩
    have hpl : p.length ≤ 300 := by
      rw [hp]
      split
      · simp
      · rw [isort_length, List.length_nil]
        omega
    rw [← hp] at hi ⊢
    simp only [Option.bind_some]
    rw [eqSampleS_same p (by omega) (k + 1) (by omega)]
    simp only [Option.bind_some]
    rw [if_pos trivial, eqSampleS_same (l.map conv) hlc (k + 1) (by omega)]
    simp only [Option.bind_some]
    rw [if_pos trivial, marks_f (l.map conv) (by omega) (k + 1) (by omega)]
    simp only [Option.bind_some]
    rw [if_neg (by omega)]
    exact law_j0 l hl p hpl k (by omega) hi
end Go.Proofs.Ytebmlghhgccloaa.PureSort
