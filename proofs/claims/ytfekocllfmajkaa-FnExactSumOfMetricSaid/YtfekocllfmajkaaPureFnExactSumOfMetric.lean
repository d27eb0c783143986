/-
What the law FnExactSumOfMetric's printed function answers: true, for every list of samples, every string and every int.
Conditions: each string of the list has at most 2^47 - 4096 bytes; the list's length fits an int.
-/
import Derived.Test.YtfekocllfmajkaaPFnExactSumOfMetricx3
namespace Go.Proofs.Ytfekocllfmajkaa.Pure
open Go.RowKit Go.Proofs.Ytfekocllfmajkaa.PFnExactSumOfMetric Go.Proofs.YtfekocllfmajkaaW.PrintWords Go.Proofs.YtfekocllfmajkaaW.PrintLast Go.Proofs.YtfekocllfmajkaaW.PrintMore
namespace FnExactSumOfMetricP
theorem wi (x : Int) (h1 : -9223372036854775808 ≤ x) (h2 : x ≤ 9223372036854775807) : wrap64 x = x := by unfold wrap64; omega
def okv (x : Int) : Bool := decide (-1000000000 ≤ x ∧ x ≤ 1000000000)
def clamp (x : Int) : Int := if x > 1000000000 then 1000000000 else if x < -1000000000 then -1000000000 else x
def acc : List Int → Int → Bool → Int × Bool
  | [], s, c => (s, c)
  | x :: xs, s, c => acc xs (clamp (s + x)) (c || (clamp (s + x) != s + x))
theorem clamp_range (x : Int) : -1000000000 ≤ clamp x ∧ clamp x ≤ 1000000000 := by
  unfold clamp
  by_cases h : x > 1000000000
  · rw [if_pos h]; omega
  · rw [if_neg h]
    by_cases h' : x < -1000000000
    · rw [if_pos h']; omega
    · rw [if_neg h']; omega
theorem acc_range : ∀ (l : List Int) (s : Int) (c : Bool), -1000000000 ≤ s → s ≤ 1000000000 → -1000000000 ≤ (acc l s c).1 ∧ (acc l s c).1 ≤ 1000000000
  | [], _, _, h1, h2 => ⟨h1, h2⟩
  | _ :: xs, _, _, _, _ => acc_range xs _ _ (clamp_range _).1 (clamp_range _).2
theorem okv_range {x : Int} (h : okv x = true) : -1000000000 ≤ x ∧ x ≤ 1000000000 := by simpa [okv] using h
theorem specValue (x : Int) : spec_l01Value.f x = some (okv x) := by
  unfold spec_l01Value.f spec_l01In.f okv
  by_cases h : -1000000000 ≤ x <;> simp [h]
theorem implValue (x : Int) : impl_isValue.f x = some (okv x) := by
  unfold impl_isValue.f impl_in.f okv
  by_cases h : -1000000000 ≤ x <;> simp [h]
theorem specCut (x : Int) : spec_CutValue.f x = some (clamp x, clamp x != x) := by
  unfold spec_CutValue.f clamp
  by_cases h : x > 1000000000
  · rw [if_pos h, if_pos h]; simp; omega
  · rw [if_neg h, if_neg h]
    by_cases h' : x < -1000000000
    · rw [if_pos h', if_pos h']; simp; omega
    · rw [if_neg h', if_neg h']; simp
theorem implCut (x : Int) : impl_CutValue.f x = some (clamp x, clamp x != x) := by
  have e : mn (mx x (-1000000000)) 1000000000 = clamp x := by
    unfold mn mx clamp
    by_cases h : x > 1000000000
    · rw [if_pos h, if_neg (by omega : ¬ x < -1000000000), if_pos (by omega : (1000000000 : Int) < x)]
    · rw [if_neg h]
      by_cases h' : x < -1000000000
      · rw [if_pos h', if_neg (by decide)]
      · rw [if_neg h', if_neg (by omega)]
  unfold impl_CutValue.f
  rw [e]
theorem drop_rd (xs : List Int) (i : Int) (h0 : 0 ≤ i) (h : i < (xs.length : Int)) : xs.drop i.toNat = rd xs i :: xs.drop (i + 1).toNat := by
  have hl : i.toNat < xs.length := by omega
  rw [show (i + 1).toNat = i.toNat + 1 from by omega, List.drop_eq_getElem_cons hl]
  simp [rd, List.getD_eq_getElem?_getD, List.getElem?_eq_getElem hl]
theorem drop_end (xs : List Int) (i : Int) (h : (xs.length : Int) ≤ i) : xs.drop i.toNat = [] := List.drop_eq_nil_of_le (by omega)
theorem spec_l1 (xs : List Int) (hm : xs.length ≤ 300) (d : Nat) : ∀ (k : Nat) (s : Int) (c : Bool) (i : Int), 0 ≤ i → i ≤ xs.length → (xs.length : Int) - i = d → d < k → -1000000000 ≤ s → s ≤ 1000000000 → (xs.drop i.toNat).all okv = true →
    spec_AddValues.l1 k xs s c i = some (acc (xs.drop i.toNat) s c) := by
  induction d with
  | zero =>
    intro k s c i h0 h1 hd hk _ _ _
    obtain ⟨k, rfl⟩ : ∃ m, k = m + 1 := ⟨k - 1, by omega⟩
    simp only [spec_AddValues.l1]; rw [if_neg (by omega), drop_end xs i (by omega)]; rfl
  | succ d ih =>
    intro k s c i h0 h1 hd hk hs1 hs2 hall
    obtain ⟨k, rfl⟩ : ∃ m, k = m + 1 := ⟨k - 1, by omega⟩
    have hlt : i < (xs.length : Int) := by omega
    rw [drop_rd xs i h0 hlt] at hall ⊢
    simp only [List.all_cons, Bool.and_eq_true] at hall
    have hr := okv_range hall.1
    have hc := clamp_range (s + rd xs i)
    simp only [spec_AddValues.l1]; rw [if_pos hlt, if_pos h0, wi (s + rd xs i) (by omega) (by omega), specCut]
    simp only [Option.bind_some]
    rw [wi (i + 1) (by omega) (by omega)]
    cases c
    · rw [if_neg (by decide), ih k _ _ (i + 1) (by omega) (by omega) (by omega) (by omega) hc.1 hc.2 hall.2]; simp [acc]
    · rw [if_pos rfl, ih k _ _ (i + 1) (by omega) (by omega) (by omega) (by omega) hc.1 hc.2 hall.2]; simp [acc]
theorem spec_l0 (xs : List Int) (hm : xs.length ≤ 300) (d : Nat) : ∀ (k : Nat) (i : Int), 0 ≤ i → i ≤ xs.length → (xs.length : Int) - i = d → d + xs.length + 1 < k → (xs.take i.toNat).all okv = true →
    spec_AddValues.l0 k xs 0 false i = some (if xs.all okv then acc xs 0 false else (0, true)) := by
  induction d with
  | zero =>
    intro k i h0 h1 hd hk hall
    obtain ⟨k, rfl⟩ : ∃ m, k = m + 1 := ⟨k - 1, by omega⟩
    rw [List.take_of_length_le (by omega)] at hall
    have h := spec_l1 xs hm xs.length k 0 false 0 (by omega) (by omega) (by omega) (by omega) (by omega) (by omega) (by simpa using hall)
    simp only [spec_AddValues.l0]; rw [if_neg (by omega), h, if_pos hall]; simp
  | succ d ih =>
    intro k i h0 h1 hd hk hall
    obtain ⟨k, rfl⟩ : ∃ m, k = m + 1 := ⟨k - 1, by omega⟩
    have hlt : i < (xs.length : Int) := by omega
    have hl : i.toNat < xs.length := by omega
    have he : rd xs i = xs[i.toNat] := by simp [rd, List.getD_eq_getElem?_getD, List.getElem?_eq_getElem hl]
    simp only [spec_AddValues.l0]; rw [if_pos hlt, if_pos h0, specValue]
    simp only [Option.bind_some]
    cases hv : okv (rd xs i)
    · rw [if_neg (by decide)]
      have : xs.all okv = false := by
        rw [List.all_eq_false]
        exact ⟨xs[i.toNat], List.getElem_mem hl, by rw [← he, hv]; decide⟩
      rw [this]; rfl
    · rw [if_pos rfl, wi (i + 1) (by omega) (by omega)]
      refine ih k (i + 1) (by omega) (by omega) (by omega) (by omega) ?_
      rw [show (i + 1).toNat = i.toNat + 1 from by omega, List.take_succ_eq_append_getElem hl]
      rw [List.all_append, hall, ← he]; simp [hv]
theorem impl_l0 (xs : List Int) (hm : xs.length ≤ 300) (d : Nat) : ∀ (k : Nat) (s : Int) (c : Bool) (i : Int), 0 ≤ i → i ≤ xs.length → (xs.length : Int) - i = d → d < k → -1000000000 ≤ s → s ≤ 1000000000 →
    impl_AddValues.l0 k s c xs (xs.length : Int) i = some (if (xs.drop i.toNat).all okv then acc (xs.drop i.toNat) s c else (0, true)) := by
  induction d with
  | zero =>
    intro k s c i h0 h1 hd hk _ _
    obtain ⟨k, rfl⟩ : ∃ m, k = m + 1 := ⟨k - 1, by omega⟩
    simp only [impl_AddValues.l0]; rw [if_neg (by omega), drop_end xs i (by omega)]; rfl
  | succ d ih =>
    intro k s c i h0 h1 hd hk hs1 hs2
    obtain ⟨k, rfl⟩ : ∃ m, k = m + 1 := ⟨k - 1, by omega⟩
    have hlt : i < (xs.length : Int) := by omega
    rw [drop_rd xs i h0 hlt]
    simp only [impl_AddValues.l0]; rw [if_pos hlt, if_pos h0, if_pos hlt, implValue]
    simp only [Option.bind_some]
    cases hv : okv (rd xs i)
    · rw [if_neg (by decide)]; simp [hv]
    · have hr := okv_range hv
      have hc := clamp_range (s + rd xs i)
      rw [if_pos rfl, wi (s + rd xs i) (by omega) (by omega), implCut]
      simp only [Option.bind_some]
      rw [wi (i + 1) (by omega) (by omega)]
      cases c
      · rw [if_neg (by decide), ih k _ _ (i + 1) (by omega) (by omega) (by omega) (by omega) hc.1 hc.2]; simp [acc, hv]
      · rw [if_pos rfl, ih k _ _ (i + 1) (by omega) (by omega) (by omega) (by omega) hc.1 hc.2]; simp [acc, hv]
/-- What both AddValues answer. -/
def addv (xs : List Int) : Int × Bool := if xs.length > 300 then (0, true) else if xs.all okv then acc xs 0 false else (0, true)
theorem addv_range (xs : List Int) : -1000000000 ≤ (addv xs).1 ∧ (addv xs).1 ≤ 1000000000 := by
  unfold addv
  split
  · exact ⟨by decide, by decide⟩
  · split
    · exact acc_range xs 0 false (by decide) (by decide)
    · exact ⟨by decide, by decide⟩
theorem spec_add (xs : List Int) (k : Nat) (hk : 603 ≤ k) : spec_AddValues.f k xs = some (addv xs) := by
  unfold spec_AddValues.f addv
  by_cases h : xs.length > 300
  · rw [if_pos (by omega), if_pos h]
  · rw [if_neg (by omega), if_neg h]
    exact spec_l0 xs (by omega) xs.length k 0 (by omega) (by omega) (by omega) (by omega) (by simp)
theorem impl_add (xs : List Int) (k : Nat) (hk : 603 ≤ k) : impl_AddValues.f k xs = some (addv xs) := by
  unfold impl_AddValues.f addv
  by_cases h : xs.length > 300
  · rw [if_pos (by omega), if_pos h]
  · rw [if_neg (by omega), if_neg h, impl_l0 xs (by omega) xs.length k 0 false 0 (by omega) (by omega) (by omega) (by omega) (by omega) (by omega)]
    simp
theorem drop_rd33 (xs : List S33) (i : Int) (h0 : 0 ≤ i) (h : i < (xs.length : Int)) : xs.drop i.toNat = rd_T33 xs i :: xs.drop (i + 1).toNat := by
  have hl : i.toNat < xs.length := by omega
  rw [show (i + 1).toNat = i.toNat + 1 from by omega, List.drop_eq_getElem_cons hl]
  simp [rd_T33, List.getD_eq_getElem?_getD, List.getElem?_eq_getElem hl]
theorem drop_rd36 (xs : List S36) (i : Int) (h0 : 0 ≤ i) (h : i < (xs.length : Int)) : xs.drop i.toNat = rd_T36 xs i :: xs.drop (i + 1).toNat := by
  have hl : i.toNat < xs.length := by omega
  rw [show (i + 1).toNat = i.toNat + 1 from by omega, List.drop_eq_getElem_cons hl]
  simp [rd_T36, List.getD_eq_getElem?_getD, List.getElem?_eq_getElem hl]
theorem mem_rd33 (xs : List S33) (i : Int) (h0 : 0 ≤ i) (h : i < (xs.length : Int)) : rd_T33 xs i ∈ xs := by
  have hl : i.toNat < xs.length := by omega
  have : rd_T33 xs i = xs[i.toNat] := by simp [rd_T33, List.getD_eq_getElem?_getD, List.getElem?_eq_getElem hl]
  rw [this]
  exact List.getElem_mem hl
theorem drop_end_ {α : Type} (xs : List α) (i : Int) (h : (xs.length : Int) ≤ i) : xs.drop i.toNat = [] := List.drop_eq_nil_of_le (by omega)
/-- Each string of a list of samples has a size of the model. -/
def Fit (xs : List S33) : Prop := ∀ x ∈ xs, x.f0.size ≤ 140737488351232 ∧ x.f1.size ≤ 140737488351232
def conv (x : S33) : S36 := ⟨x.f0, x.f1, x.f2, x.f3⟩
theorem szSample_some (x : S33) (n : Int) (h0 : 0 ≤ n) (hn : n ≤ 1048576) (hx : x.f0.size ≤ 140737488351232 ∧ x.f1.size ≤ 140737488351232) : ∃ r, laws_szSample.f x.f0 x.f1 x.f2 x.f3 n = some r ∧ r ≤ n ∧ (0 ≤ r → (x.f0.size : Int) + x.f1.size + r = n) := by
  unfold laws_szSample.f
  rw [wi (n - (x.f0.size : Int)) (by omega) (by omega), wi (n - (x.f0.size : Int) - (x.f1.size : Int)) (by omega) (by omega)]
  by_cases h1 : n - (x.f0.size : Int) < 0
  · rw [if_pos h1]; exact ⟨_, rfl, by omega, by omega⟩
  · rw [if_neg h1]
    by_cases h2 : n - (x.f0.size : Int) - (x.f1.size : Int) < 0
    · rw [if_pos h2]; exact ⟨_, rfl, by omega, by omega⟩
    · rw [if_neg h2]; exact ⟨_, rfl, by omega, by omega⟩
theorem szSampleS_l0 (xs : List S33) (hf : Fit xs) (hm : xs.length ≤ 1048576) (d : Nat) : ∀ (k : Nat) (n i : Int), 0 ≤ i → i ≤ xs.length → (xs.length : Int) - i = d → d < k → 0 ≤ n → n ≤ 1048576 →
    ∃ r, laws_szSampleS.l0 k xs n i = some r := by
  induction d with
  | zero =>
    intro k n i h0 h1 hd hk _ _
    obtain ⟨k, rfl⟩ : ∃ m, k = m + 1 := ⟨k - 1, by omega⟩
    simp only [laws_szSampleS.l0]; rw [if_neg (by omega)]; exact ⟨_, rfl⟩
  | succ d ih =>
    intro k n i h0 h1 hd hk hn hn'
    obtain ⟨k, rfl⟩ : ∃ m, k = m + 1 := ⟨k - 1, by omega⟩
    have hlt : i < (xs.length : Int) := by omega
    obtain ⟨r, hr, hle, _⟩ := szSample_some (rd_T33 xs i) n hn hn' (hf _ (mem_rd33 xs i h0 hlt))
    simp only [laws_szSampleS.l0]; rw [if_pos hlt, if_pos h0, hr]
    simp only [Option.bind_some]
    by_cases hneg : r < 0
    · rw [if_pos hneg]; exact ⟨_, rfl⟩
    · rw [if_neg hneg, wi (i + 1) (by omega) (by omega)]
      exact ih k r (i + 1) (by omega) (by omega) (by omega) (by omega) (by omega) (by omega)
/-- The law's own measure of a list: below 0, or the list is short. -/
theorem szSampleS_some (xs : List S33) (hf : Fit xs) (hl : xs.length ≤ 9223372036854775807) (k : Nat) (hk : xs.length < k ∨ 1048576 < k) : ∃ r, laws_szSampleS.f k xs 1048576 = some r ∧ (r < 0 ∨ xs.length ≤ 1048576) := by
  unfold laws_szSampleS.f
  rw [wi (1048576 - (xs.length : Int)) (by omega) (by omega)]
  by_cases h : (1048576 : Int) - (xs.length : Int) < 0
  · rw [if_pos h]; exact ⟨_, rfl, .inl (by omega)⟩
  · rw [if_neg h]
    obtain ⟨r, hr⟩ := szSampleS_l0 xs hf (by omega) xs.length k (1048576 - (xs.length : Int)) 0 (by omega) (by omega) (by omega) (by omega) (by omega) (by omega)
    exact ⟨r, hr, .inr (by omega)⟩
theorem toSampleS_l0 (xs : List S33) (hm : xs.length ≤ 1048576) (d : Nat) : ∀ (k : Nat) (o : List S36) (i : Int), 0 ≤ i → i ≤ xs.length → (xs.length : Int) - i = d → d < k → o.length = xs.length →
    laws_toSampleS.l0 k xs o i = some (o.take i.toNat ++ (xs.drop i.toNat).map conv) := by
  induction d with
  | zero =>
    intro k o i h0 h1 hd hk ho
    obtain ⟨k, rfl⟩ : ∃ m, k = m + 1 := ⟨k - 1, by omega⟩
    simp only [laws_toSampleS.l0]; rw [if_neg (by omega), drop_end_ xs i (by omega), List.take_of_length_le (by omega)]; simp
  | succ d ih =>
    intro k o i h0 h1 hd hk ho
    obtain ⟨k, rfl⟩ : ∃ m, k = m + 1 := ⟨k - 1, by omega⟩
    have hlt : i < (xs.length : Int) := by omega
    have hl : i.toNat < o.length := by omega
    simp only [laws_toSampleS.l0, laws_toSample.f, Option.bind_some]; rw [if_pos hlt, if_pos h0, if_pos (by omega), wi (i + 1) (by omega) (by omega), ih k _ (i + 1) (by omega) (by omega) (by omega) (by omega) (by simpa using ho), drop_rd33 xs i h0 hlt]
    rw [show (i + 1).toNat = i.toNat + 1 from by omega, List.take_succ_eq_append_getElem (by simpa using hl), List.take_set_of_le (Nat.le_refl _)]
    simp [conv]
theorem toSampleS_same (xs : List S33) (hm : xs.length ≤ 1048576) (k : Nat) (hk : xs.length < k) : laws_toSampleS.f k xs = some (xs.map conv) := by
  unfold laws_toSampleS.f
  rw [if_pos (by omega), if_pos (by omega), toSampleS_l0 xs hm xs.length k _ 0 (by omega) (by omega) (by omega) (by omega) (by simp)]
  simp
theorem eqSampleS_l0 (xs : List S36) (hm : xs.length ≤ 1048576) (d : Nat) : ∀ (k : Nat) (i : Int), 0 ≤ i → i ≤ xs.length → (xs.length : Int) - i = d → d < k →
    laws_eqSampleS.l0 k xs xs i = some true := by
  induction d with
  | zero =>
    intro k i h0 h1 hd hk
    obtain ⟨k, rfl⟩ : ∃ m, k = m + 1 := ⟨k - 1, by omega⟩
    simp only [laws_eqSampleS.l0]; rw [if_neg (by omega)]
  | succ d ih =>
    intro k i h0 h1 hd hk
    obtain ⟨k, rfl⟩ : ∃ m, k = m + 1 := ⟨k - 1, by omega⟩
    have hlt : i < (xs.length : Int) := by omega
    simp only [laws_eqSampleS.l0, laws_eqSample.f, if_true, Option.bind_some]; rw [if_pos hlt, if_pos h0, if_pos hlt, wi (i + 1) (by omega) (by omega)]
    exact ih k (i + 1) (by omega) (by omega) (by omega) (by omega)
theorem eqSampleS_same (xs : List S36) (hm : xs.length ≤ 1048576) (k : Nat) (hk : xs.length < k) : laws_eqSampleS.f k xs xs = some true := by
  unfold laws_eqSampleS.f
  rw [if_pos rfl]
  exact eqSampleS_l0 xs hm xs.length k 0 (by omega) (by omega) (by omega) (by omega)
/-- The values of a metric at a moment. -/
def vals : List S36 → ByteArray → Int → List Int
  | [], _, _ => []
  | x :: xs, m, t => if x.f1.toList = m.toList ∧ x.f3 = t then x.f2 :: vals xs m t else vals xs m t
theorem spec_sum_l0 (xs : List S36) (m : ByteArray) (t : Int) (hm : xs.length ≤ 1048576) (d : Nat) : ∀ (k : Nat) (o : List Int) (i : Int), 0 ≤ i → i ≤ xs.length → (xs.length : Int) - i = d → d + 604 < k → (o.length : Int) ≤ i →
    spec_SumOfMetric.l0 k xs m t o i = some (addv (o ++ vals (xs.drop i.toNat) m t)) := by
  induction d with
  | zero =>
    intro k o i h0 h1 hd hk ho
    obtain ⟨k, rfl⟩ : ∃ m, k = m + 1 := ⟨k - 1, by omega⟩
    simp only [spec_SumOfMetric.l0]; rw [if_neg (by omega), drop_end_ xs i (by omega), spec_add _ k (by omega)]; simp [vals]
  | succ d ih =>
    intro k o i h0 h1 hd hk ho
    obtain ⟨k, rfl⟩ : ∃ m, k = m + 1 := ⟨k - 1, by omega⟩
    have hlt : i < (xs.length : Int) := by omega
    simp only [spec_SumOfMetric.l0]; rw [if_pos hlt, if_pos h0, drop_rd36 xs i h0 hlt, wi (i + 1) (by omega) (by omega)]
    by_cases c1 : (rd_T36 xs i).f1.toList = m.toList
    · rw [if_pos c1]
      by_cases c2 : (rd_T36 xs i).f3 = t
      · rw [if_pos c2, if_pos (by omega), ih k _ (i + 1) (by omega) (by omega) (by omega) (by omega) (by simp; omega)]
        simp [vals, c1, c2]
      · rw [if_neg c2, ih k _ (i + 1) (by omega) (by omega) (by omega) (by omega) (by omega)]
        simp [vals, c2]
    · rw [if_neg c1, ih k _ (i + 1) (by omega) (by omega) (by omega) (by omega) (by omega)]
      simp [vals, c1]
theorem impl_sum_l0 (xs : List S36) (m : ByteArray) (t : Int) (hm : xs.length ≤ 1048576) (d : Nat) : ∀ (k : Nat) (o : List Int) (i : Int), 0 ≤ i → i ≤ xs.length → (xs.length : Int) - i = d → d + 604 < k → (o.length : Int) ≤ i →
    impl_SumOfMetric.l0 k m t o xs (xs.length : Int) i = some (addv (o ++ vals (xs.drop i.toNat) m t)) := by
  induction d with
  | zero =>
    intro k o i h0 h1 hd hk ho
    obtain ⟨k, rfl⟩ : ∃ m, k = m + 1 := ⟨k - 1, by omega⟩
    simp only [impl_SumOfMetric.l0]; rw [if_neg (by omega), drop_end_ xs i (by omega), impl_add _ k (by omega)]; simp [vals]
  | succ d ih =>
    intro k o i h0 h1 hd hk ho
    obtain ⟨k, rfl⟩ : ∃ m, k = m + 1 := ⟨k - 1, by omega⟩
    have hlt : i < (xs.length : Int) := by omega
    simp only [impl_SumOfMetric.l0]; rw [if_pos hlt, if_pos h0, if_pos hlt, drop_rd36 xs i h0 hlt, wi (i + 1) (by omega) (by omega)]
    by_cases c1 : (rd_T36 xs i).f1.toList = m.toList
    · rw [if_pos c1]
      by_cases c2 : (rd_T36 xs i).f3 = t
      · rw [if_pos c2, if_pos (by omega), ih k _ (i + 1) (by omega) (by omega) (by omega) (by omega) (by simp; omega)]
        simp [vals, c1, c2]
      · rw [if_neg c2, ih k _ (i + 1) (by omega) (by omega) (by omega) (by omega) (by omega)]
        simp [vals, c2]
    · rw [if_neg c1, ih k _ (i + 1) (by omega) (by omega) (by omega) (by omega) (by omega)]
      simp [vals, c1]
end FnExactSumOfMetricP
open FnExactSumOfMetricP
theorem FnExactSumOfMetric (l : List S33) (hf : Fit l) (hl : l.length ≤ 9223372036854775807) (m : ByteArray) (t : Int) : ∃ k, laws_FnExactSumOfMetric.f k l m t = some true := by
  refine ⟨1050000, ?_⟩
  unfold laws_FnExactSumOfMetric.f
  by_cases h : (m.size : Int) > 1048576
  · rw [if_pos h]
  · rw [if_neg h]
    obtain ⟨r, hr, hc⟩ := szSampleS_some l hf hl 1050000 (by omega)
    rw [hr]
    simp only [Option.bind_some]
    by_cases hneg : r < 0
    · rw [if_pos hneg]
    · rw [if_neg hneg]
      have hlen : l.length ≤ 1048576 := by omega
      have hlen' : (l.map conv).length ≤ 1048576 := by simpa using hlen
      rw [toSampleS_same l hlen 1050000 (by omega)]
      simp only [Option.bind_some]
      have e1 : spec_SumOfMetric.f 1050000 (l.map conv) m t = some (addv (vals (l.map conv) m t)) := by
        unfold spec_SumOfMetric.f
        rw [spec_sum_l0 (l.map conv) m t hlen' (l.map conv).length 1050000 [] 0 (by omega) (by omega) (by omega) (by omega) (by simp)]
        simp
      have e2 : impl_SumOfMetric.f 1050000 (l.map conv) m t = some (addv (vals (l.map conv) m t)) := by
        unfold impl_SumOfMetric.f
        rw [impl_sum_l0 (l.map conv) m t hlen' (l.map conv).length 1050000 [] 0 (by omega) (by omega) (by omega) (by omega) (by simp)]
        simp
      rw [e1, e2]
      simp only [Option.bind_some, if_true]
      obtain ⟨k, hk⟩ : ∃ k, 1050000 = k + 1 := ⟨1049999, rfl⟩
      rw [hk]
      simp only [laws_FnExactSumOfMetric.j0]
      rw [if_neg (by simp), toSampleS_same l hlen k (by omega)]
      simp only [Option.bind_some]
      rw [eqSampleS_same _ hlen' k (by omega)]
      simp
end Go.Proofs.Ytfekocllfmajkaa.Pure
