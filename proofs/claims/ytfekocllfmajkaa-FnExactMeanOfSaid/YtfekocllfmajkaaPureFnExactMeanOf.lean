/-
The law FnExactMeanOf answers true for every list of ints: the program's MeanOf and the reference's return the same mean and flag, and the argument stays as it was.
Conditions: No condition beyond the list's size in the model (8 bytes an element, 2^47 - 4096 bytes in all).
-/
import Derived.Test.YtfekocllfmajkaaPFnExactMeanOfx2
namespace Go.Proofs.Ytfekocllfmajkaa.Pure
open Go.RowKit Go.Proofs.Ytfekocllfmajkaa.PFnExactMeanOf Go.Proofs.YtfekocllfmajkaaW.PrintWords Go.Proofs.YtfekocllfmajkaaW.PrintLast Go.Proofs.YtfekocllfmajkaaW.PrintMore
namespace FnExactMeanOfP
theorem wi (x : Int) (h1 : -9223372036854775808 ≤ x) (h2 : x ≤ 9223372036854775807) : wrap64 x = x := by unfold wrap64; omega
def okv (x : Int) : Bool := decide (-1000000000 ≤ x ∧ x ≤ 1000000000)
def clamp (x : Int) : Int := if x > 1000000000 then 1000000000 else if x < -1000000000 then -1000000000 else x
def acc : List Int → Int → Bool → Int × Bool
  | [], s, c => (s, c)
  | x :: xs, s, c => acc xs (clamp (s + x)) (c || (clamp (s + x) != s + x))
theorem clamp_range (x : Int) : -1000000000 ≤ clamp x ∧ clamp x ≤ 1000000000 := by
  unfold clamp
  by_cases h : x > 1000000000
  · rw [if_pos h]; omega
  · rw [if_neg h]
    by_cases h' : x < -1000000000
    · rw [if_pos h']; omega
    · rw [if_neg h']; omega
theorem acc_range : ∀ (l : List Int) (s : Int) (c : Bool), -1000000000 ≤ s → s ≤ 1000000000 → -1000000000 ≤ (acc l s c).1 ∧ (acc l s c).1 ≤ 1000000000
  | [], _, _, h1, h2 => ⟨h1, h2⟩
  | _ :: xs, _, _, _, _ => acc_range xs _ _ (clamp_range _).1 (clamp_range _).2
theorem okv_range {x : Int} (h : okv x = true) : -1000000000 ≤ x ∧ x ≤ 1000000000 := by simpa [okv] using h
theorem specValue (x : Int) : spec_l01Value.f x = some (okv x) := by
  unfold spec_l01Value.f spec_l01In.f okv
  by_cases h : -1000000000 ≤ x <;> simp [h]
theorem implValue (x : Int) : impl_isValue.f x = some (okv x) := by
  unfold impl_isValue.f impl_in.f okv
  by_cases h : -1000000000 ≤ x <;> simp [h]
theorem specCut (x : Int) : spec_CutValue.f x = some (clamp x, clamp x != x) := by
  unfold spec_CutValue.f clamp
  by_cases h : x > 1000000000
  · rw [if_pos h, if_pos h]; simp; omega
  · rw [if_neg h, if_neg h]
    by_cases h' : x < -1000000000
    · rw [if_pos h', if_pos h']; simp; omega
    · rw [if_neg h', if_neg h']; simp
theorem implCut (x : Int) : impl_CutValue.f x = some (clamp x, clamp x != x) := by
  have e : mn (mx x (-1000000000)) 1000000000 = clamp x := by
    unfold mn mx clamp
    by_cases h : x > 1000000000
    · rw [if_pos h, if_neg (by omega : ¬ x < -1000000000), if_pos (by omega : (1000000000 : Int) < x)]
    · rw [if_neg h]
      by_cases h' : x < -1000000000
      · rw [if_pos h', if_neg (by decide)]
      · rw [if_neg h', if_neg (by omega)]
  unfold impl_CutValue.f
  rw [e]
theorem drop_rd (xs : List Int) (i : Int) (h0 : 0 ≤ i) (h : i < (xs.length : Int)) : xs.drop i.toNat = rd xs i :: xs.drop (i + 1).toNat := by
  have hl : i.toNat < xs.length := by omega
  rw [show (i + 1).toNat = i.toNat + 1 from by omega, List.drop_eq_getElem_cons hl]
  simp [rd, List.getD_eq_getElem?_getD, List.getElem?_eq_getElem hl]
theorem drop_end (xs : List Int) (i : Int) (h : (xs.length : Int) ≤ i) : xs.drop i.toNat = [] := List.drop_eq_nil_of_le (by omega)
theorem spec_l1 (xs : List Int) (hm : xs.length ≤ 300) (d : Nat) : ∀ (k : Nat) (s : Int) (c : Bool) (i : Int), 0 ≤ i → i ≤ xs.length → (xs.length : Int) - i = d → d < k → -1000000000 ≤ s → s ≤ 1000000000 → (xs.drop i.toNat).all okv = true →
    spec_AddValues.l1 k xs s c i = some (acc (xs.drop i.toNat) s c) := by
  induction d with
  | zero =>
    intro k s c i h0 h1 hd hk _ _ _
    obtain ⟨k, rfl⟩ : ∃ m, k = m + 1 := ⟨k - 1, by omega⟩
    simp only [spec_AddValues.l1]; rw [if_neg (by omega), drop_end xs i (by omega)]; rfl
  | succ d ih =>
    intro k s c i h0 h1 hd hk hs1 hs2 hall
    obtain ⟨k, rfl⟩ : ∃ m, k = m + 1 := ⟨k - 1, by omega⟩
    have hlt : i < (xs.length : Int) := by omega
    rw [drop_rd xs i h0 hlt] at hall ⊢
    simp only [List.all_cons, Bool.and_eq_true] at hall
    have hr := okv_range hall.1
    have hc := clamp_range (s + rd xs i)
    simp only [spec_AddValues.l1]; rw [if_pos hlt, if_pos h0, wi (s + rd xs i) (by omega) (by omega), specCut]
    simp only [Option.bind_some]
    rw [wi (i + 1) (by omega) (by omega)]
    cases c
    · rw [if_neg (by decide), ih k _ _ (i + 1) (by omega) (by omega) (by omega) (by omega) hc.1 hc.2 hall.2]; simp [acc]
    · rw [if_pos rfl, ih k _ _ (i + 1) (by omega) (by omega) (by omega) (by omega) hc.1 hc.2 hall.2]; simp [acc]
theorem spec_l0 (xs : List Int) (hm : xs.length ≤ 300) (d : Nat) : ∀ (k : Nat) (i : Int), 0 ≤ i → i ≤ xs.length → (xs.length : Int) - i = d → d + xs.length + 1 < k → (xs.take i.toNat).all okv = true →
    spec_AddValues.l0 k xs 0 false i = some (if xs.all okv then acc xs 0 false else (0, true)) := by
  induction d with
  | zero =>
    intro k i h0 h1 hd hk hall
    obtain ⟨k, rfl⟩ : ∃ m, k = m + 1 := ⟨k - 1, by omega⟩
    rw [List.take_of_length_le (by omega)] at hall
    have h := spec_l1 xs hm xs.length k 0 false 0 (by omega) (by omega) (by omega) (by omega) (by omega) (by omega) (by simpa using hall)
    simp only [spec_AddValues.l0]; rw [if_neg (by omega), h, if_pos hall]; simp
  | succ d ih =>
    intro k i h0 h1 hd hk hall
    obtain ⟨k, rfl⟩ : ∃ m, k = m + 1 := ⟨k - 1, by omega⟩
    have hlt : i < (xs.length : Int) := by omega
    have hl : i.toNat < xs.length := by omega
    have he : rd xs i = xs[i.toNat] := by simp [rd, List.getD_eq_getElem?_getD, List.getElem?_eq_getElem hl]
    simp only [spec_AddValues.l0]; rw [if_pos hlt, if_pos h0, specValue]
    simp only [Option.bind_some]
    cases hv : okv (rd xs i)
    · rw [if_neg (by decide)]
      have : xs.all okv = false := by
        rw [List.all_eq_false]
        exact ⟨xs[i.toNat], List.getElem_mem hl, by rw [← he, hv]; decide⟩
      rw [this]; rfl
    · rw [if_pos rfl, wi (i + 1) (by omega) (by omega)]
      refine ih k (i + 1) (by omega) (by omega) (by omega) (by omega) ?_
      rw [show (i + 1).toNat = i.toNat + 1 from by omega, List.take_succ_eq_append_getElem hl]
      rw [List.all_append, hall, ← he]; simp [hv]
theorem impl_l0 (xs : List Int) (hm : xs.length ≤ 300) (d : Nat) : ∀ (k : Nat) (s : Int) (c : Bool) (i : Int), 0 ≤ i → i ≤ xs.length → (xs.length : Int) - i = d → d < k → -1000000000 ≤ s → s ≤ 1000000000 →
    impl_AddValues.l0 k s c xs (xs.length : Int) i = some (if (xs.drop i.toNat).all okv then acc (xs.drop i.toNat) s c else (0, true)) := by
  induction d with
  | zero =>
    intro k s c i h0 h1 hd hk _ _
    obtain ⟨k, rfl⟩ : ∃ m, k = m + 1 := ⟨k - 1, by omega⟩
    simp only [impl_AddValues.l0]; rw [if_neg (by omega), drop_end xs i (by omega)]; rfl
  | succ d ih =>
    intro k s c i h0 h1 hd hk hs1 hs2
    obtain ⟨k, rfl⟩ : ∃ m, k = m + 1 := ⟨k - 1, by omega⟩
    have hlt : i < (xs.length : Int) := by omega
    rw [drop_rd xs i h0 hlt]
    simp only [impl_AddValues.l0]; rw [if_pos hlt, if_pos h0, if_pos hlt, implValue]
    simp only [Option.bind_some]
    cases hv : okv (rd xs i)
    · rw [if_neg (by decide)]; simp [hv]
    · have hr := okv_range hv
      have hc := clamp_range (s + rd xs i)
      rw [if_pos rfl, wi (s + rd xs i) (by omega) (by omega), implCut]
      simp only [Option.bind_some]
      rw [wi (i + 1) (by omega) (by omega)]
      cases c
      · rw [if_neg (by decide), ih k _ _ (i + 1) (by omega) (by omega) (by omega) (by omega) hc.1 hc.2]; simp [acc, hv]
      · rw [if_pos rfl, ih k _ _ (i + 1) (by omega) (by omega) (by omega) (by omega) hc.1 hc.2]; simp [acc, hv]
/-- What both AddValues answer. -/
def addv (xs : List Int) : Int × Bool := if xs.length > 300 then (0, true) else if xs.all okv then acc xs 0 false else (0, true)
theorem addv_range (xs : List Int) : -1000000000 ≤ (addv xs).1 ∧ (addv xs).1 ≤ 1000000000 := by
  unfold addv
  split
  · exact ⟨by decide, by decide⟩
  · split
    · exact acc_range xs 0 false (by decide) (by decide)
    · exact ⟨by decide, by decide⟩
theorem spec_add (xs : List Int) (k : Nat) (hk : 603 ≤ k) : spec_AddValues.f k xs = some (addv xs) := by
  unfold spec_AddValues.f addv
  by_cases h : xs.length > 300
  · rw [if_pos (by omega), if_pos h]
  · rw [if_neg (by omega), if_neg h]
    exact spec_l0 xs (by omega) xs.length k 0 (by omega) (by omega) (by omega) (by omega) (by simp)
theorem impl_add (xs : List Int) (k : Nat) (hk : 603 ≤ k) : impl_AddValues.f k xs = some (addv xs) := by
  unfold impl_AddValues.f addv
  by_cases h : xs.length > 300
  · rw [if_pos (by omega), if_pos h]
  · rw [if_neg (by omega), if_neg h, impl_l0 xs (by omega) xs.length k 0 false 0 (by omega) (by omega) (by omega) (by omega) (by omega) (by omega)]
    simp
theorem toIntS_l0 (xs : List Int) (hm : xs.length ≤ 1048576) (d : Nat) : ∀ (k : Nat) (o : List Int) (i : Int), 0 ≤ i → i ≤ xs.length → (xs.length : Int) - i = d → d < k → o.length = xs.length →
    laws_toIntS.l0 k xs o i = some (o.take i.toNat ++ xs.drop i.toNat) := by
  induction d with
  | zero =>
    intro k o i h0 h1 hd hk ho
    obtain ⟨k, rfl⟩ : ∃ m, k = m + 1 := ⟨k - 1, by omega⟩
    simp only [laws_toIntS.l0]; rw [if_neg (by omega), drop_end xs i (by omega), List.take_of_length_le (by omega)]; simp
  | succ d ih =>
    intro k o i h0 h1 hd hk ho
    obtain ⟨k, rfl⟩ : ∃ m, k = m + 1 := ⟨k - 1, by omega⟩
    have hlt : i < (xs.length : Int) := by omega
    have hl : i.toNat < o.length := by omega
    simp only [laws_toIntS.l0]; rw [if_pos hlt, if_pos h0, if_pos (by omega), wi (i + 1) (by omega) (by omega), ih k _ (i + 1) (by omega) (by omega) (by omega) (by omega) (by simpa using ho), drop_rd xs i h0 hlt]
    rw [show (i + 1).toNat = i.toNat + 1 from by omega, List.take_succ_eq_append_getElem (by simpa using hl), List.take_set_of_le (Nat.le_refl _)]
    simp
theorem toIntS_same (xs : List Int) (hm : xs.length ≤ 1048576) (k : Nat) (hk : xs.length < k) : laws_toIntS.f k xs = some xs := by
  unfold laws_toIntS.f
  rw [if_pos (by omega), if_pos (by omega), toIntS_l0 xs hm xs.length k _ 0 (by omega) (by omega) (by omega) (by omega) (by simp)]
  simp
theorem eqIntS_l0 (xs : List Int) (hm : xs.length ≤ 1048576) (d : Nat) : ∀ (k : Nat) (i : Int), 0 ≤ i → i ≤ xs.length → (xs.length : Int) - i = d → d < k →
    laws_eqIntS.l0 k xs xs i = some true := by
  induction d with
  | zero =>
    intro k i h0 h1 hd hk
    obtain ⟨k, rfl⟩ : ∃ m, k = m + 1 := ⟨k - 1, by omega⟩
    simp only [laws_eqIntS.l0]; rw [if_neg (by omega)]
  | succ d ih =>
    intro k i h0 h1 hd hk
    obtain ⟨k, rfl⟩ : ∃ m, k = m + 1 := ⟨k - 1, by omega⟩
    have hlt : i < (xs.length : Int) := by omega
    simp only [laws_eqIntS.l0]; simp only [if_true]; rw [if_pos hlt, if_pos h0, if_pos hlt, wi (i + 1) (by omega) (by omega)]
    exact ih k (i + 1) (by omega) (by omega) (by omega) (by omega)
theorem eqIntS_same (xs : List Int) (hm : xs.length ≤ 1048576) (k : Nat) (hk : xs.length < k) : laws_eqIntS.f k xs xs = some true := by
  unfold laws_eqIntS.f
  rw [if_pos rfl]
  exact eqIntS_l0 xs hm xs.length k 0 (by omega) (by omega) (by omega) (by omega)
theorem fl (a b : Int) : ∃ r, spec_FloorDiv.f a b = some r ∧ impl_FloorDiv.f a b = some r := by
  have e : impl_FloorDiv.f a b = spec_FloorDiv.f a b := rfl
  rw [e]
  unfold spec_FloorDiv.f
  by_cases h : b < 1
  · rw [if_pos h]; exact ⟨_, rfl, rfl⟩
  · rw [if_neg h, if_neg (by omega)]; split <;> exact ⟨_, rfl, rfl⟩
theorem means (xs : List Int) (k : Nat) (hk : 603 ≤ k) : ∃ r, spec_MeanOf.f k xs = some r ∧ impl_MeanOf.f k xs = some r := by
  unfold spec_MeanOf.f impl_MeanOf.f
  rw [spec_add xs k hk, impl_add xs k hk]
  simp only [Option.bind_some]
  obtain ⟨r, h1, h2⟩ := fl (addv xs).1 (xs.length : Int)
  rw [h1, h2]
  by_cases h : (xs.length : Int) = 0
  · rw [if_pos h]; exact ⟨_, rfl, rfl⟩
  · rw [if_neg h]
    cases (addv xs).2
    · exact ⟨_, rfl, rfl⟩
    · exact ⟨_, rfl, rfl⟩
end FnExactMeanOfP
open FnExactMeanOfP
theorem FnExactMeanOf : laws_FnExactMeanOf.Pure := by
  intro l _ _ _
  refine ⟨l.length + 604, ?_⟩
  unfold laws_FnExactMeanOf.f
  by_cases h : (l.length : Int) > 1048576
  · rw [if_pos h]
  · rw [if_neg h, toIntS_same l (by omega) _ (by omega)]
    simp only [Option.bind_some]
    obtain ⟨r, h1, h2⟩ := means l (l.length + 604) (by omega)
    rw [h1, h2]
    simp only [Option.bind_some, if_true]
    simp only [laws_FnExactMeanOf.j0]
    rw [if_neg (by simp), toIntS_same l (by omega) _ (by omega)]
    simp only [Option.bind_some]
    rw [eqIntS_same l (by omega) _ (by omega)]
    simp
end Go.Proofs.Ytfekocllfmajkaa.Pure
