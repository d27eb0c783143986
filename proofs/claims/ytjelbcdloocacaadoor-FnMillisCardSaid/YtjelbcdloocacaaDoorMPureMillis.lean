/-
The law FnMillis answers true for every list of bytes: ParseMilli of MilliText is the value, the mean lies between the least and the greatest, a value is near itself, at what is drawn out of the list.
Conditions: no condition beyond the list's size in the model.
-/
import Derived.Test.YtjelbcdloocacaaDoorMQAx1
import Derived.Test.YtjelbcdloocacaaDoorMHand
import Derived.Test.YtjelbcdloocacaaDoorMQCx1
import Derived.Test.YtjelbcdloocacaaDoorMQCx2
import Derived.Test.YtjelbcdloocacaaDoorMQCx3
import Derived.Test.YtjelbcdloocacaaDoorMQCx4
import Derived.Test.YtjelbcdloocacaaDoorMPureMilli
import Derived.Test.YtjelbcdloocacaaDoorMPureParse
namespace Go.Proofs.YtjelbcdloocacaaDoor.PureMillis
open Go Go.RowKit Go.Proofs.YtjelbcdloocacaaDoor.QC Go.Proofs.YtjelbcdloocacaaDoor.QA Go.Proofs.YtjelbcdloocacaaDoor.Hand Go.Proofs.YtjelbcdloocacaaDoor.Given Go.Proofs.YtjelbcdloocacaaDoor.PureMilli Go.Proofs.YtjelbcdloocacaaDoor.PureParse Go.Proofs.YtjelbcdloocacaaDoorW.PrintWords Go.Proofs.YtjelbcdloocacaaDoorW.PrintLast Go.Proofs.YtjelbcdloocacaaDoorW.PrintMore
theorem wi (x : Int) (h1 : -9223372036854775808 ≤ x) (h2 : x ≤ 9223372036854775807) : wrap64 x = x := by unfold wrap64; omega
def okv (x : Int) : Bool := decide (-1000000000 ≤ x ∧ x ≤ 1000000000)
def clamp (x : Int) : Int := if x > 1000000000 then 1000000000 else if x < -1000000000 then -1000000000 else x
def acc : List Int → Int → Bool → Int × Bool
  | [], s, c => (s, c)
  | x :: xs, s, c => acc xs (clamp (s + x)) (c || (clamp (s + x) != s + x))
theorem clamp_range (x : Int) : -1000000000 ≤ clamp x ∧ clamp x ≤ 1000000000 := by
  unfold clamp
  by_cases h : x > 1000000000
  · rw [if_pos h]; omega
  · rw [if_neg h]
    by_cases h' : x < -1000000000
    · rw [if_pos h']; omega
    · rw [if_neg h']; omega
theorem acc_range : ∀ (l : List Int) (s : Int) (c : Bool), -1000000000 ≤ s → s ≤ 1000000000 → -1000000000 ≤ (acc l s c).1 ∧ (acc l s c).1 ≤ 1000000000
  | [], _, _, h1, h2 => ⟨h1, h2⟩
  | _ :: xs, _, _, _, _ => acc_range xs _ _ (clamp_range _).1 (clamp_range _).2
theorem okv_range {x : Int} (h : okv x = true) : -1000000000 ≤ x ∧ x ≤ 1000000000 := by simpa [okv] using h
theorem specValue (x : Int) : spec_l01Value.f x = some (okv x) := by
  unfold spec_l01Value.f spec_l01In.f okv
  by_cases h : -1000000000 ≤ x <;> simp [h]
theorem implValue (x : Int) : impl_isValue.f x = some (okv x) := by
  unfold impl_isValue.f impl_in.f okv
  by_cases h : -1000000000 ≤ x <;> simp [h]
theorem specCut (x : Int) : spec_CutValue.f x = some (clamp x, clamp x != x) := by
  unfold spec_CutValue.f clamp
  by_cases h : x > 1000000000
  · rw [if_pos h, if_pos h]; simp; omega
  · rw [if_neg h, if_neg h]
    by_cases h' : x < -1000000000
    · rw [if_pos h', if_pos h']; simp; omega
    · rw [if_neg h', if_neg h']; simp
theorem implCut (x : Int) : impl_CutValue.f x = some (clamp x, clamp x != x) := by
  have e : mn (mx x (-1000000000)) 1000000000 = clamp x := by
    unfold mn mx clamp
    by_cases h : x > 1000000000
    · rw [if_pos h, if_neg (by omega : ¬ x < -1000000000), if_pos (by omega : (1000000000 : Int) < x)]
    · rw [if_neg h]
      by_cases h' : x < -1000000000
      · rw [if_pos h', if_neg (by decide)]
      · rw [if_neg h', if_neg (by omega)]
  unfold impl_CutValue.f
  rw [e]
theorem drop_rd (xs : List Int) (i : Int) (h0 : 0 ≤ i) (h : i < (xs.length : Int)) : xs.drop i.toNat = rd xs i :: xs.drop (i + 1).toNat := by
  have hl : i.toNat < xs.length := by omega
  rw [show (i + 1).toNat = i.toNat + 1 from by omega, List.drop_eq_getElem_cons hl]
  simp [rd, List.getD_eq_getElem?_getD, List.getElem?_eq_getElem hl]
theorem drop_end (xs : List Int) (i : Int) (h : (xs.length : Int) ≤ i) : xs.drop i.toNat = [] := List.drop_eq_nil_of_le (by omega)
theorem spec_l1 (xs : List Int) (hm : xs.length ≤ 300) (d : Nat) : ∀ (k : Nat) (s : Int) (c : Bool) (i : Int), 0 ≤ i → i ≤ xs.length → (xs.length : Int) - i = d → d < k → -1000000000 ≤ s → s ≤ 1000000000 → (xs.drop i.toNat).all okv = true →
    spec_AddValues.l1 k xs s c i = some (acc (xs.drop i.toNat) s c) := by
  induction d with
  | zero =>
    intro k s c i h0 h1 hd hk _ _ _
    obtain ⟨k, rfl⟩ : ∃ m, k = m + 1 := ⟨k - 1, by omega⟩
    simp only [spec_AddValues.l1]; rw [if_neg (by omega), drop_end xs i (by omega)]; rfl
  | succ d ih =>
    intro k s c i h0 h1 hd hk hs1 hs2 hall
    obtain ⟨k, rfl⟩ : ∃ m, k = m + 1 := ⟨k - 1, by omega⟩
    have hlt : i < (xs.length : Int) := by omega
    rw [drop_rd xs i h0 hlt] at hall ⊢
    simp only [List.all_cons, Bool.and_eq_true] at hall
    have hr := okv_range hall.1
    have hc := clamp_range (s + rd xs i)
    simp only [spec_AddValues.l1]; rw [if_pos hlt, if_pos h0, wi (s + rd xs i) (by omega) (by omega), specCut]
    simp only [Option.bind_some]
    rw [wi (i + 1) (by omega) (by omega)]
    cases c
    · rw [if_neg (by decide), ih k _ _ (i + 1) (by omega) (by omega) (by omega) (by omega) hc.1 hc.2 hall.2]; simp [acc]
    · rw [if_pos rfl, ih k _ _ (i + 1) (by omega) (by omega) (by omega) (by omega) hc.1 hc.2 hall.2]; simp [acc]
theorem spec_l0 (xs : List Int) (hm : xs.length ≤ 300) (d : Nat) : ∀ (k : Nat) (i : Int), 0 ≤ i → i ≤ xs.length → (xs.length : Int) - i = d → d + xs.length + 1 < k → (xs.take i.toNat).all okv = true →
    spec_AddValues.l0 k xs 0 false i = some (if xs.all okv then acc xs 0 false else (0, true)) := by
  induction d with
  | zero =>
    intro k i h0 h1 hd hk hall
    obtain ⟨k, rfl⟩ : ∃ m, k = m + 1 := ⟨k - 1, by omega⟩
    rw [List.take_of_length_le (by omega)] at hall
    have h := spec_l1 xs hm xs.length k 0 false 0 (by omega) (by omega) (by omega) (by omega) (by omega) (by omega) (by simpa using hall)
    simp only [spec_AddValues.l0]; rw [if_neg (by omega), h, if_pos hall]; simp
  | succ d ih =>
    intro k i h0 h1 hd hk hall
    obtain ⟨k, rfl⟩ : ∃ m, k = m + 1 := ⟨k - 1, by omega⟩
    have hlt : i < (xs.length : Int) := by omega
    have hl : i.toNat < xs.length := by omega
    have he : rd xs i = xs[i.toNat] := by simp [rd, List.getD_eq_getElem?_getD, List.getElem?_eq_getElem hl]
    simp only [spec_AddValues.l0]; rw [if_pos hlt, if_pos h0, specValue]
    simp only [Option.bind_some]
    cases hv : okv (rd xs i)
    · rw [if_neg (by decide)]
      have : xs.all okv = false := by
        rw [List.all_eq_false]
        exact ⟨xs[i.toNat], List.getElem_mem hl, by rw [← he, hv]; decide⟩
      rw [this]; rfl
    · rw [if_pos rfl, wi (i + 1) (by omega) (by omega)]
      refine ih k (i + 1) (by omega) (by omega) (by omega) (by omega) ?_
      rw [show (i + 1).toNat = i.toNat + 1 from by omega, List.take_succ_eq_append_getElem hl]
      rw [List.all_append, hall, ← he]; simp [hv]
theorem impl_l0 (xs : List Int) (hm : xs.length ≤ 300) (d : Nat) : ∀ (k : Nat) (s : Int) (c : Bool) (i : Int), 0 ≤ i → i ≤ xs.length → (xs.length : Int) - i = d → d < k → -1000000000 ≤ s → s ≤ 1000000000 →
    impl_AddValues.l0 k s c xs (xs.length : Int) i = some (if (xs.drop i.toNat).all okv then acc (xs.drop i.toNat) s c else (0, true)) := by
  induction d with
  | zero =>
    intro k s c i h0 h1 hd hk _ _
    obtain ⟨k, rfl⟩ : ∃ m, k = m + 1 := ⟨k - 1, by omega⟩
    simp only [impl_AddValues.l0]; rw [if_neg (by omega), drop_end xs i (by omega)]; rfl
  | succ d ih =>
    intro k s c i h0 h1 hd hk hs1 hs2
    obtain ⟨k, rfl⟩ : ∃ m, k = m + 1 := ⟨k - 1, by omega⟩
    have hlt : i < (xs.length : Int) := by omega
    rw [drop_rd xs i h0 hlt]
    simp only [impl_AddValues.l0]; rw [if_pos hlt, if_pos h0, if_pos hlt, implValue]
    simp only [Option.bind_some]
    cases hv : okv (rd xs i)
    · rw [if_neg (by decide)]; simp [hv]
    · have hr := okv_range hv
      have hc := clamp_range (s + rd xs i)
      rw [if_pos rfl, wi (s + rd xs i) (by omega) (by omega), implCut]
      simp only [Option.bind_some]
      rw [wi (i + 1) (by omega) (by omega)]
      cases c
      · rw [if_neg (by decide), ih k _ _ (i + 1) (by omega) (by omega) (by omega) (by omega) hc.1 hc.2]; simp [acc, hv]
      · rw [if_pos rfl, ih k _ _ (i + 1) (by omega) (by omega) (by omega) (by omega) hc.1 hc.2]; simp [acc, hv]
/-- What both AddValues answer. -/
def addv (xs : List Int) : Int × Bool := if xs.length > 300 then (0, true) else if xs.all okv then acc xs 0 false else (0, true)
theorem addv_range (xs : List Int) : -1000000000 ≤ (addv xs).1 ∧ (addv xs).1 ≤ 1000000000 := by
  unfold addv
  split
  · exact ⟨by decide, by decide⟩
  · split
    · exact acc_range xs 0 false (by decide) (by decide)
    · exact ⟨by decide, by decide⟩
theorem spec_add (xs : List Int) (k : Nat) (hk : 603 ≤ k) : spec_AddValues.f k xs = some (addv xs) := by
  unfold spec_AddValues.f addv
  by_cases h : xs.length > 300
  · rw [if_pos (by omega), if_pos h]
  · rw [if_neg (by omega), if_neg h]
    exact spec_l0 xs (by omega) xs.length k 0 (by omega) (by omega) (by omega) (by omega) (by simp)
theorem impl_add (xs : List Int) (k : Nat) (hk : 603 ≤ k) : impl_AddValues.f k xs = some (addv xs) := by
  unfold impl_AddValues.f addv
  by_cases h : xs.length > 300
  · rw [if_pos (by omega), if_pos h]
  · rw [if_neg (by omega), if_neg h, impl_l0 xs (by omega) xs.length k 0 false 0 (by omega) (by omega) (by omega) (by omega) (by omega) (by omega)]
    simp
theorem and255 (n : Int) : Go.bits .and .i64 n 255 = n % 256 := by
  have h255 : (BitVec.ofInt 64 255).toNat = 2 ^ 8 - 1 := by decide
  have key : (BitVec.ofInt 64 n &&& BitVec.ofInt 64 255).toNat = (n % ((2 ^ 64 : Nat) : Int)).toNat % 2 ^ 8 := by
    rw [BitVec.toNat_and, BitVec.toNat_ofInt, h255, Nat.and_two_pow_sub_one_eq_mod]
  show IntKind.i64.wrap ((BitVec.ofInt 64 n &&& BitVec.ofInt 64 255).toNat : Nat) = n % 256
  rw [key, IntKind.wrap_i64]
  omega
theorem new_l0 (b : List Int) (hb : b.length ≤ 1048576) (d : Nat) : ∀ (k : Nat) (h i : Int), 0 ≤ i → i ≤ b.length → (b.length : Int) - i = d → d < k → ∃ h', spec_l01New.l0 k b h i = some (b, 0, h') := by
  induction d with
  | zero =>
    intro k h i h0 h1 hd hk
    obtain ⟨k, rfl⟩ : ∃ m, k = m + 1 := ⟨k - 1, by omega⟩
    simp only [spec_l01New.l0]; rw [if_neg (by omega)]; exact ⟨_, rfl⟩
  | succ d ih =>
    intro k h i h0 h1 hd hk
    obtain ⟨k, rfl⟩ : ∃ m, k = m + 1 := ⟨k - 1, by omega⟩
    have hlt : i < (b.length : Int) := by omega
    simp only [spec_l01New.l0]; rw [if_pos hlt]
    by_cases h4 : i < 4000
    · rw [if_pos h4, if_pos h0, wi (i + 1) (by omega) (by omega)]
      exact ih k _ (i + 1) (by omega) (by omega) (by omega) (by omega)
    · rw [if_neg h4]; exact ⟨_, rfl⟩
theorem new_some (b : List Int) (hb : b.length ≤ 1048576) (k : Nat) (hk : b.length < k) : ∃ h, spec_l01New.f k b = some (b, 0, h) := by
  unfold spec_l01New.f
  exact new_l0 b hb b.length k _ 0 (by omega) (by omega) (by omega) hk
theorem byte_some (b : List Int) (i h : Int) (hb : b.length ≤ 1048576) (h0 : 0 ≤ i) (h1 : i ≤ b.length) : ∃ x i' h', spec_l01Byte.f b i h = some (x, i', h') ∧ 0 ≤ x ∧ x ≤ 255 ∧ 0 ≤ i' ∧ i' ≤ b.length := by
  unfold spec_l01Byte.f
  by_cases hlt : i < (b.length : Int)
  · rw [if_pos hlt, if_pos h0, wi (i + 1) (by omega) (by omega), and255]
    refine ⟨_, _, _, rfl, ?_⟩
    omega
  · rw [if_neg hlt, and255]
    refine ⟨_, _, _, rfl, ?_⟩
    omega
theorem tmod_range (x n : Int) (hx : 0 ≤ x) (hn : 1 ≤ n) : 0 ≤ Int.tmod x n ∧ Int.tmod x n < n := by
  rw [Int.tmod_eq_emod_of_nonneg hx]
  exact ⟨Int.emod_nonneg _ (by omega), Int.emod_lt_of_pos _ (by omega)⟩
theorem below_some (b : List Int) (i h n : Int) (hb : b.length ≤ 1048576) (h0 : 0 ≤ i) (h1 : i ≤ b.length) (hn : 1 ≤ n) : ∃ r i' h', spec_l01Below.f b i h n = some (r, i', h') ∧ 0 ≤ r ∧ r < n ∧ 0 ≤ i' ∧ i' ≤ b.length := by
  unfold spec_l01Below.f
  rw [if_neg (by omega)]
  obtain ⟨x, i1, g1, e1, x0, x1, a0, a1⟩ := byte_some b i h hb h0 h1
  rw [e1]
  simp only [Option.bind_some]
  by_cases h256 : n ≤ 256
  · rw [if_pos h256, if_neg (by omega)]
    have := tmod_range x n x0 hn
    exact ⟨_, _, _, rfl, this.1, this.2, a0, a1⟩
  · rw [if_neg h256]
    obtain ⟨y, i2, g2, e2, y0, y1, b0, b1⟩ := byte_some b i1 g1 hb a0 a1
    rw [e2]
    simp only [Option.bind_some]
    obtain ⟨z, i3, g3, e3, z0, z1, c0, c1⟩ := byte_some b i2 g2 hb b0 b1
    rw [e3]
    simp only [Option.bind_some]
    rw [if_neg (by omega), wi (x * 65536) (by omega) (by omega), wi (y * 256) (by omega) (by omega), wi (x * 65536 + y * 256) (by omega) (by omega), wi (x * 65536 + y * 256 + z) (by omega) (by omega)]
    have := tmod_range (x * 65536 + y * 256 + z) n (by omega) hn
    exact ⟨_, _, _, rfl, this.1, this.2, c0, c1⟩
theorem pick_some (b : List Int) (i h : Int) (l : List Int) (hb : b.length ≤ 1048576) (h0 : 0 ≤ i) (h1 : i ≤ b.length) (hl : 1 ≤ l.length) : ∃ j i' h', spec_l01PickInt.f b i h l = some (rd l j, i', h') ∧ 0 ≤ j ∧ j < l.length ∧ 0 ≤ i' ∧ i' ≤ b.length := by
  unfold spec_l01PickInt.f
  obtain ⟨r, i1, g1, e1, r0, r1, a0, a1⟩ := below_some b i h (l.length : Int) hb h0 h1 (by omega)
  rw [e1]
  simp only [Option.bind_some]
  rw [if_pos r0, if_pos r1]
  exact ⟨r, i1, g1, rfl, r0, r1, a0, a1⟩
theorem rd_in (l : List Int) (j : Int) (h0 : 0 ≤ j) (h1 : j < l.length) (p : Int → Prop) (hp : ∀ x ∈ l, p x) : p (rd l j) := by
  have hl : j.toNat < l.length := by omega
  have : rd l j = l[j.toNat] := by simp [rd, List.getD_eq_getElem?_getD, List.getElem?_eq_getElem hl]
  rw [this]
  exact hp _ (List.getElem_mem hl)
theorem size_some (b : List Int) (i h : Int) (hb : b.length ≤ 1048576) (h0 : 0 ≤ i) (h1 : i ≤ b.length) : ∃ v i' h', spec_l01DrawSize.f b i h = some (v, i', h') ∧ -1 ≤ v ∧ v ≤ 1000000001 ∧ 0 ≤ i' ∧ i' ≤ b.length := by
  unfold spec_l01DrawSize.f
  obtain ⟨x, i1, g1, e1, x0, x1, a0, a1⟩ := below_some b i h 100 hb h0 h1 (by omega)
  rw [e1]
  simp only [Option.bind_some]
  obtain ⟨y, i2, g2, e2, y0, y1, b0, b1⟩ := below_some b i1 g1 100 hb a0 a1 (by omega)
  rw [e2]
  simp only [Option.bind_some]
  obtain ⟨z, i3, g3, e3, z0, z1, c0, c1⟩ := below_some b i2 g2 16777216 hb b0 b1 (by omega)
  rw [e3]
  simp only [Option.bind_some]
  rw [wi (y * 1000) (by omega) (by omega)]
  obtain ⟨j, i4, g4, e4, j0, j1, d0, d1⟩ := pick_some b i3 g3 [0, 1, x, y * 1000, z, 1000000000, 999999999, 1000000001, -1] hb c0 c1 (by simp)
  rw [e4]
  simp only [Option.bind_some]
  have hr := rd_in [0, 1, x, y * 1000, z, 1000000000, 999999999, 1000000001, -1] j j0 j1 (fun v => -1 ≤ v ∧ v ≤ 1000000001) (by
    intro v hv
    simp only [List.mem_cons, List.not_mem_nil, or_false] at hv
    omega)
  exact ⟨_, _, _, rfl, hr.1, hr.2, d0, d1⟩
theorem once_some (b : List Int) (i h n : Int) (hb : b.length ≤ 1048576) (h0 : 0 ≤ i) (h1 : i ≤ b.length) (hn : 1 ≤ n) : ∃ r i' h', spec_l01Once.f b i h n = some (r, i', h') ∧ 0 ≤ i' ∧ i' ≤ b.length := by
  unfold spec_l01Once.f
  obtain ⟨x, i1, g1, e1, x0, x1, a0, a1⟩ := below_some b i h n hb h0 h1 hn
  rw [e1]
  simp only [Option.bind_some]
  exact ⟨_, _, _, rfl, a0, a1⟩
theorem value_some (b : List Int) (i h : Int) (hb : b.length ≤ 1048576) (h0 : 0 ≤ i) (h1 : i ≤ b.length) : ∃ v i' h', spec_l01DrawValue.f b i h = some (v, i', h') ∧ -1000000001 ≤ v ∧ v ≤ 1000000001 ∧ 0 ≤ i' ∧ i' ≤ b.length := by
  unfold spec_l01DrawValue.f
  obtain ⟨v, i1, g1, e1, v0, v1, a0, a1⟩ := size_some b i h hb h0 h1
  rw [e1]
  simp only [Option.bind_some]
  obtain ⟨o, i2, g2, e2, b0, b1⟩ := once_some b i1 g1 3 hb a0 a1 (by omega)
  rw [e2]
  simp only [Option.bind_some]
  cases o
  · rw [if_neg (by decide)]; exact ⟨_, _, _, rfl, by omega, by omega, b0, b1⟩
  · rw [if_pos rfl, wi (-v) (by omega) (by omega)]; exact ⟨_, _, _, rfl, by omega, by omega, b0, b1⟩
theorem alt_l0_short (b : List Int) (hb : b.length ≤ 1048576) (d : Nat) : ∀ (k : Nat) (o : List Int) (i : Int), 0 ≤ i → i ≤ b.length → (b.length : Int) - i = d → d < k → (o.length : Int) = i + 1 → i ≤ 3000 → ∃ o', laws_alt.l0 k b o i = some o' ∧ o'.length ≤ 3001 := by
  induction d with
  | zero =>
    intro k o i h0 h1 hd hk ho hi
    obtain ⟨k, rfl⟩ : ∃ m, k = m + 1 := ⟨k - 1, by omega⟩
    simp only [laws_alt.l0]; rw [if_neg (by omega)]; exact ⟨_, rfl, by omega⟩
  | succ d ih =>
    intro k o i h0 h1 hd hk ho hi
    obtain ⟨k, rfl⟩ : ∃ m, k = m + 1 := ⟨k - 1, by omega⟩
    have hlt : i < (b.length : Int) := by omega
    simp only [laws_alt.l0]; rw [if_pos hlt]
    by_cases h3 : i < 3000
    · rw [if_pos h3, if_pos h0, if_pos (by omega), wi (i + 1) (by omega) (by omega)]
      exact ih k _ (i + 1) (by omega) (by omega) (by omega) (by omega) (by simp; omega) (by omega)
    · rw [if_neg h3]; exact ⟨_, rfl, by omega⟩
theorem alt_some (b : List Int) (c : Int) (hb : b.length ≤ 1048576) (k : Nat) (hk : b.length < k) : ∃ o, laws_alt.f k b c = some o ∧ o.length ≤ 3001 := by
  unfold laws_alt.f
  exact alt_l0_short b hb b.length k _ 0 (by omega) (by omega) (by omega) hk (by simp) (by omega)
def floorv (x d : Int) : Int := if Int.tmod x d < 0 then Int.tdiv x d - 1 else Int.tdiv x d
/-- Quotient and remainder, for linear arithmetic. -/
theorem quot (x d : Int) (hd : 1 ≤ d) : ∃ q r, Int.tdiv x d = q ∧ Int.tmod x d = r ∧ r + d * q = x ∧ -d < r ∧ r < d ∧ q.natAbs ≤ x.natAbs := by
  refine ⟨_, _, rfl, rfl, Int.tmod_add_mul_tdiv x d, Int.lt_tmod_of_pos x (by omega), Int.tmod_lt_of_pos x (by omega), Int.natAbs_tdiv_le_natAbs x d⟩
theorem floor_some (x d : Int) (h1 : -2000000000000000000 ≤ x) (h2 : x ≤ 2000000000000000000) (hd : 1 ≤ d) : impl_FloorDiv.f x d = some (floorv x d) := by
  unfold impl_FloorDiv.f floorv
  rw [if_neg (by omega), if_neg (by omega)]
  obtain ⟨q, r, e1, e2, _, _, _, hq⟩ := quot x d hd
  rw [e1, e2, wi q (by omega) (by omega), wi (q - 1) (by omega) (by omega)]
  by_cases h : r < 0
  · rw [if_pos h, if_pos h]
  · rw [if_neg h, if_neg h]
/-- A floor lies where its number lies. -/
theorem floor_between (x d a b : Int) (hd : 1 ≤ d) (ha : d * a ≤ x) (hb : x ≤ d * b) : a ≤ floorv x d ∧ floorv x d ≤ b := by
  unfold floorv
  obtain ⟨q, r, e1, e2, e3, h1, h2, _⟩ := quot x d hd
  rw [e1, e2]
  by_cases h : r < 0
  · rw [if_pos h]
    constructor
    · have : d * a < d * q := by omega
      have := Int.lt_of_mul_lt_mul_left this (by omega)
      omega
    · have : d * (q - 1) < d * b := by rw [Int.mul_sub, Int.mul_one]; omega
      have := Int.lt_of_mul_lt_mul_left this (by omega)
      omega
  · rw [if_neg h]
    constructor
    · have : d * a < d * (q + 1) := by rw [Int.mul_add, Int.mul_one]; omega
      have := Int.lt_of_mul_lt_mul_left this (by omega)
      omega
    · have : d * q < d * (b + 1) := by rw [Int.mul_add, Int.mul_one]; omega
      have := Int.lt_of_mul_lt_mul_left this (by omega)
      omega
def total : List Int → Int
  | [] => 0
  | x :: xs => x + total xs
theorem acc_total : ∀ (l : List Int) (s : Int) (c : Bool), (acc l s c).2 = false → c = false ∧ (acc l s c).1 = s + total l
  | [], s, c, h => ⟨h, by simp [acc, total]⟩
  | x :: xs, s, c, h => by
    simp only [acc] at h ⊢
    obtain ⟨h1, h2⟩ := acc_total xs _ _ h
    rw [Bool.or_eq_false_iff] at h1
    have e : clamp (s + x) = s + x := by simpa using h1.2
    refine ⟨h1.1, ?_⟩
    rw [h2, e, total]
    omega
theorem total_between : ∀ (l : List Int) (a b : Int), (∀ x ∈ l, a ≤ x ∧ x ≤ b) → (l.length : Int) * a ≤ total l ∧ total l ≤ (l.length : Int) * b
  | [], a, b, _ => by simp [total]
  | x :: xs, a, b, h => by
    obtain ⟨h1, h2⟩ := total_between xs a b (fun y hy => h y (List.mem_cons_of_mem _ hy))
    have h3 := h x List.mem_cons_self
    rw [List.length_cons, total, Int.natCast_add, Int.add_mul, Int.add_mul]
    simp only [Int.natCast_one, Int.one_mul]
    omega
/-- The mean. -/
def meanv (xs : List Int) : Int × Bool := if (xs.length : Int) = 0 then (0, false) else if (addv xs).2 = true then (0, false) else (floorv (addv xs).1 (xs.length : Int), true)
theorem mean_impl (xs : List Int) (k : Nat) (hk : 603 ≤ k) : impl_MeanOf.f k xs = some (meanv xs) := by
  unfold impl_MeanOf.f meanv
  rw [impl_add xs k hk]
  simp only [Option.bind_some]
  by_cases h : (xs.length : Int) = 0
  · rw [if_pos h, if_pos h]
  · rw [if_neg h, if_neg h]
    by_cases h2 : (addv xs).2 = true
    · rw [if_pos h2, if_pos h2]
    · obtain ⟨a, b⟩ := addv_range xs
      rw [if_neg h2, if_neg h2, floor_some _ _ (by omega) (by omega) (by omega)]
      rfl
theorem mean_spec (xs : List Int) (k : Nat) (hk : 603 ≤ k) : spec_MeanOf.f k xs = some (meanv xs) := by
  have h : spec_MeanOf.f k xs = impl_MeanOf.f k xs := by
    unfold spec_MeanOf.f impl_MeanOf.f
    rw [spec_add xs k hk, impl_add xs k hk]
    rfl
  rw [h, mean_impl xs k hk]
theorem mean_between (xs : List Int) (h : (meanv xs).2 = true) (a b : Int) (hab : ∀ x ∈ xs, a ≤ x ∧ x ≤ b) : xs.length ≤ 300 ∧ 1 ≤ xs.length ∧ a ≤ (meanv xs).1 ∧ (meanv xs).1 ≤ b := by
  unfold meanv at h ⊢
  by_cases h0 : (xs.length : Int) = 0
  · rw [if_pos h0] at h; cases h
  · rw [if_neg h0] at h ⊢
    by_cases h2 : (addv xs).2 = true
    · rw [if_pos h2] at h; cases h
    · rw [if_neg h2]
      have hl : xs.length ≤ 300 := by
        refine Nat.le_of_not_lt fun hgt => h2 ?_
        unfold addv
        rw [if_pos hgt]
      have he : (addv xs).1 = total xs := by
        unfold addv at h2 ⊢
        rw [if_neg (by omega)] at h2 ⊢
        by_cases ho : xs.all okv = true
        · rw [if_pos ho] at h2 ⊢
          have := (acc_total xs 0 false (Bool.eq_false_iff.mpr h2)).2
          omega
        · rw [if_neg ho] at h2
          exact absurd rfl h2
      obtain ⟨t1, t2⟩ := total_between xs a b hab
      obtain ⟨f1, f2⟩ := floor_between (addv xs).1 (xs.length : Int) a b (by omega) (by rw [he]; exact t1) (by rw [he]; exact t2)
      exact ⟨hl, by omega, f1, f2⟩
theorem near_self (v : Int) (h0 : 0 ≤ v) (h1 : v ≤ 1000000000) : impl_NearBy.f v v 0 = some true := by
  unfold impl_NearBy.f impl_isSize.f impl_in.f
  have hm : mx (0 : Int) 0 = 0 := by decide
  rw [Int.sub_self, wi 0 (by omega) (by omega), hm, Int.zero_mul, Int.mul_zero, wi 0 (by omega) (by omega)]
  simp [h0, h1]
/-- The end of the law. -/
theorem law_end (v : Int) (xs : List Int) (k : Nat) (hk : 603 ≤ k) : ((impl_AddValues.f k xs).bind fun bt364 => ((spec_AddValues.f k xs).bind fun bt366 => (if bt364.1 = bt366.1 then (if (bt364.2 == bt366.2) = true then (if v < 0 then (some true) else (if v > 1000000000 then (some true) else ((impl_NearBy.f v v 0).bind fun t368 => (some t368)))) else (some false)) else (some false)))) = some true := by
  rw [impl_add xs k hk, spec_add xs k hk]
  simp only [Option.bind_some]
  rw [if_pos trivial, if_pos (by simp)]
  by_cases h0 : v < 0
  · rw [if_pos h0]
  · rw [if_neg h0]
    by_cases h1 : v > 1000000000
    · rw [if_pos h1]
    · rw [if_neg h1, near_self v (by omega) (by omega)]
      rfl
theorem law_j3 (v : Int) (xs : List Int) (k : Nat) (hk : 604 ≤ k) : laws_FnMillis.j3 k v xs false = some true := by
  obtain ⟨k, rfl⟩ : ∃ m, k = m + 1 := ⟨k - 1, by omega⟩
  rw [laws_FnMillis.j3, if_neg (by simp)]
  exact law_end v xs k (by omega)
theorem law_l0 (v : Int) (xs : List Int) (hl : xs.length ≤ 300) (mean : Int) (hm : ∀ a b, (∀ x ∈ xs, a ≤ x ∧ x ≤ b) → a ≤ mean ∧ mean ≤ b) : ∀ (d : Nat) (i a b : Int) (k : Nat), 0 ≤ i → (xs.length : Int) - i = d → d + 605 ≤ k → (∀ x ∈ xs.take i.toNat, a ≤ x ∧ x ≤ b) → laws_FnMillis.l0 k v xs mean a b i = some true
  | 0, i, a, b, k, h0, hd, hk, hab => by
    obtain ⟨k, rfl⟩ : ∃ m, k = m + 1 := ⟨k - 1, by omega⟩
    rw [List.take_of_length_le (by omega)] at hab
    obtain ⟨h1, h2⟩ := hm a b hab
    rw [laws_FnMillis.l0, if_neg (by omega), if_neg (by omega), show decide (mean > b) = false from decide_eq_false (by omega)]
    exact law_j3 v xs k (by omega)
  | d + 1, i, a, b, k, h0, hd, hk, hab => by
    obtain ⟨k, rfl⟩ : ∃ m, k = m + 1 := ⟨k - 1, by omega⟩
    have step : ∀ a' b' : Int, a' ≤ a → b ≤ b' → a' ≤ rd xs i → rd xs i ≤ b' → laws_FnMillis.l0 k v xs mean a' b' (i + 1) = some true := by
      intro a' b' e1 e2 e3 e4
      refine law_l0 v xs hl mean hm d (i + 1) a' b' k (by omega) (by omega) (by omega) ?_
      intro x hx
      have ht : xs.take (i + 1).toNat = xs.take i.toNat ++ [rd xs i] := by
        rw [show (i + 1).toNat = i.toNat + 1 from by omega, List.take_add_one, List.getElem?_eq_getElem (by omega)]
        congr 1
        have : xs[i.toNat]'(by omega) = rd xs i := by
          unfold rd
          rw [List.getD_eq_getElem?_getD, List.getElem?_eq_getElem (by omega)]
          rfl
        rw [this]
        rfl
      rw [ht] at hx
      rcases List.mem_append.1 hx with hx | hx
      · have := hab x hx; omega
      · obtain rfl := List.mem_singleton.1 hx
        exact ⟨e3, e4⟩
    rw [laws_FnMillis.l0, if_pos (by omega), if_pos h0, wi (i + 1) (by omega) (by omega)]
    by_cases c1 : rd xs i < a
    · rw [if_pos c1]
      by_cases c2 : rd xs i > b
      · rw [if_pos c2]; exact step _ _ (by omega) (by omega) (by omega) (by omega)
      · rw [if_neg c2]; exact step _ _ (by omega) (by omega) (by omega) (by omega)
    · rw [if_neg c1]
      by_cases c2 : rd xs i > b
      · rw [if_pos c2]; exact step _ _ (by omega) (by omega) (by omega) (by omega)
      · rw [if_neg c2]; exact step _ _ (by omega) (by omega) (by omega) (by omega)
theorem list_l0 (b : List Int) (hb : b.length ≤ 1048576) (n : Int) (hn : n ≤ 400) : ∀ (d : Nat) (out : List Int) (j i h : Int) (k : Nat), 0 ≤ i → i ≤ b.length → 0 ≤ j → n - j ≤ d → d + 1 ≤ k → out.length ≤ 1000 + j.toNat → ∃ r, spec_l01DrawList.l0 k out n j b i h = some r
  | 0, out, j, i, h, k, hi0, hi1, hj, hd, hk, ho => by
    obtain ⟨k, rfl⟩ : ∃ m, k = m + 1 := ⟨k - 1, by omega⟩
    rw [spec_l01DrawList.l0, if_neg (by omega)]
    exact ⟨_, rfl⟩
  | d + 1, out, j, i, h, k, hi0, hi1, hj, hd, hk, ho => by
    obtain ⟨k, rfl⟩ : ∃ m, k = m + 1 := ⟨k - 1, by omega⟩
    rw [spec_l01DrawList.l0]
    by_cases hlt : j < n
    · rw [if_pos hlt, wi (j + 1) (by omega) (by omega)]
      obtain ⟨x, i1, g1, e1, _, _, a0, a1⟩ := below_some b i h 5000 hb hi0 hi1 (by omega)
      rw [e1]
      simp only [Option.bind_some]
      obtain ⟨o, i2, g2, e2, b0, b1⟩ := once_some b i1 g1 15 hb a0 a1 (by omega)
      rw [e2]
      simp only [Option.bind_some]
      cases o
      · rw [if_neg (by simp), if_pos (by omega)]
        exact list_l0 b hb n hn d _ (j + 1) _ _ k b0 b1 (by omega) (by omega) (by omega) (by rw [List.length_append, List.length_singleton]; omega)
      · rw [if_pos rfl]
        obtain ⟨y, i3, g3, e3, _, _, c0, c1⟩ := value_some b i2 g2 hb b0 b1
        rw [e3]
        simp only [Option.bind_some]
        rw [if_pos (by omega)]
        exact list_l0 b hb n hn d _ (j + 1) _ _ k c0 c1 (by omega) (by omega) (by omega) (by rw [List.length_append, List.length_singleton]; omega)
    · rw [if_neg hlt]; exact ⟨_, rfl⟩
theorem lsize_some (b : List Int) (hb : b.length ≤ 1048576) : ∃ n, spec_l01Size.f b 12 = some n ∧ 1 ≤ n ∧ n ≤ 12 := by
  unfold spec_l01Size.f
  rw [wi ((b.length : Int) / 16) (by omega) (by omega), wi (2 + (b.length : Int) / 16) (by omega) (by omega)]
  by_cases h : 2 + (b.length : Int) / 16 > 12
  · rw [if_pos h]; exact ⟨_, rfl, by omega, by omega⟩
  · rw [if_neg h]; exact ⟨_, rfl, by omega, by omega⟩
theorem listf_some (b : List Int) (hb : b.length ≤ 1048576) (h : Int) (k : Nat) (hk : 500 ≤ k) : ∃ r, spec_l01DrawList.f k b 0 h b = some r := by
  unfold spec_l01DrawList.f
  rw [Option.bind_some]
  obtain ⟨n, en, hn1, hn2⟩ := lsize_some b hb
  rw [en, Option.bind_some]
  obtain ⟨x, i1, g1, e1, x0, x1, a0, a1⟩ := below_some b 0 h n hb (by omega) (by omega) hn1
  rw [e1, Option.bind_some]
  obtain ⟨o, i2, g2, e2, b0, b1⟩ := once_some b i1 g1 40 hb a0 a1 (by omega)
  rw [e2, Option.bind_some]
  obtain ⟨k, rfl⟩ : ∃ m, k = m + 1 := ⟨k - 1, by omega⟩
  cases o
  · rw [if_neg (by simp), spec_l01DrawList.j0]
    exact list_l0 b hb x (by omega) 400 [] 0 _ _ k b0 b1 (by omega) (by omega) (by omega) (by simp)
  · rw [if_pos rfl]
    obtain ⟨y, i3, g3, e3, y0, y1, c0, c1⟩ := below_some b i2 g2 2 hb b0 b1 (by omega)
    rw [e3, Option.bind_some]
    rw [wi (300 + y) (by omega) (by omega), spec_l01DrawList.j0]
    exact list_l0 b hb (300 + y) (by omega) 400 [] 0 _ _ k c0 c1 (by omega) (by omega) (by omega) (by simp)
theorem list_some (b : List Int) (hb : b.length ≤ 1048576) (k : Nat) (hk : b.length + 500 ≤ k) : ∃ l, spec_DrawMeanOf.f k b = some l := by
  have hl : ∃ l, spec_DrawAddValues.f k b = some l := by
    unfold spec_DrawAddValues.f
    obtain ⟨h, e0⟩ := new_some b hb k (by omega)
    obtain ⟨r, hr⟩ := listf_some b hb h k (by omega)
    rw [e0, Option.bind_some, hr, Option.bind_some]
    exact ⟨_, rfl⟩
  obtain ⟨l, hl⟩ := hl
  unfold spec_DrawMeanOf.f
  rw [hl, Option.bind_some]
  exact ⟨_, rfl⟩
theorem draw_milli (b : List Int) (hb : b.length ≤ 1048576) (k : Nat) (hk : b.length < k) : ∃ v, spec_DrawMilliText.f k b = some v := by
  unfold spec_DrawMilliText.f
  obtain ⟨h, e0⟩ := new_some b hb k hk
  rw [e0]
  simp only [Option.bind_some]
  obtain ⟨v, i1, g1, e1, _, _, a0, a1⟩ := value_some b 0 h hb (by omega) (by omega)
  rw [e1]
  simp only [Option.bind_some]
  obtain ⟨x, i2, g2, e2, _, _, b0, b1⟩ := below_some b i1 g1 9999 hb a0 a1 (by omega)
  rw [e2]
  simp only [Option.bind_some]
  obtain ⟨j, i4, g4, e4, _, _, d0, d1⟩ := pick_some b i2 g2 [v, wrap64 (x - 3000), 100, 120, -5] hb b0 b1 (by simp)
  rw [e4]
  exact ⟨_, rfl⟩
theorem law_j0 (b : List Int) (hb : b.length ≤ 1048576) (v : Int) (k : Nat) (hk : 1060000 ≤ k) : laws_FnMillis.j0 k b v false = some true := by
  obtain ⟨k, rfl⟩ : ∃ m, k = m + 2 := ⟨k - 2, by omega⟩
  rw [laws_FnMillis.j0, if_neg (by simp)]
  obtain ⟨o, e1, ho⟩ := alt_some b 1 hb (k + 1) (by omega)
  rw [e1]
  simp only [Option.bind_some]
  obtain ⟨xs, e2⟩ := list_some o (by omega) (k + 1) (by omega)
  rw [e2]
  simp only [Option.bind_some]
  rw [mean_impl xs (k + 1) (by omega), mean_spec xs (k + 1) (by omega)]
  simp only [Option.bind_some]
  rw [if_neg (by simp), show ((meanv xs).1 != (meanv xs).1) = false from by simp, laws_FnMillis.j1, if_neg (by simp)]
  by_cases h : (meanv xs).2 = true
  · rw [if_pos h]
    have hm : ∀ a b : Int, (∀ x ∈ xs, a ≤ x ∧ x ≤ b) → a ≤ (meanv xs).1 ∧ (meanv xs).1 ≤ b := fun a b hab => (mean_between xs h a b hab).2.2
    have hlen : xs.length ≤ 300 ∧ 1 ≤ xs.length := by
      obtain ⟨a, b, hab⟩ : ∃ a b : Int, ∀ x ∈ xs, a ≤ x ∧ x ≤ b := by
        clear hm h e2
        induction xs with
        | nil => exact ⟨0, 0, fun x hx => by cases hx⟩
        | cons y ys ih =>
          obtain ⟨a, b, hab⟩ := ih
          refine ⟨min y a, max y b, fun x hx => ?_⟩
          rcases List.mem_cons.1 hx with rfl | hx
          · omega
          · have := hab x hx; omega
      have := mean_between xs h a b hab
      exact ⟨this.1, this.2.1⟩
    rw [if_pos (by omega)]
    exact law_l0 v xs hlen.1 _ hm xs.length 0 _ _ k (by omega) (by omega) (by omega) (fun x hx => by simp at hx)
  · rw [if_neg h]
    exact law_end v xs k (by omega)
theorem law_FnMillis (l : List Int) (_ : l.length ≤ maxLen) (_ : l.length * 1 ≤ 140737488351232) (_ : ∀ x ∈ l, (Lit.int .u8 x).wf = true) : ∃ k, laws_FnMillis.f k l = some true := by
  refine ⟨1060000, ?_⟩
  unfold laws_FnMillis.f laws_big.f
  simp only [Option.bind_some]
  by_cases hl : (l.length : Int) > 1048576
  · rw [if_pos (by simpa using hl)]
  · rw [if_neg (by simpa using hl)]
    obtain ⟨v, e1⟩ := draw_milli l (by omega) 1060000 (by omega)
    rw [e1]
    simp only [Option.bind_some]
    rw [milli_impl v _ (by omega), milli_spec v _ (by omega)]
    simp only [Option.bind_some]
    have hms := milli_short v
    obtain ⟨r, _, e2, e3⟩ := pm_same (milli v) (by omega) 1060000 (by omega)
    rw [e2]
    simp only [Option.bind_some, B_toList]
    rw [if_pos trivial]
    have hj := law_j0 l (by omega) v 1060000 (by omega)
    by_cases hv : -1000000000 ≤ v ∧ v ≤ 1000000000
    · have hne := milli_ne v hv.1 hv.2
      have he := pm_impl_hit v hv.1 hv.2 1060000 (by omega)
      rw [he] at e2
      obtain rfl := Option.some.inj e2
      have h1 : (milli v != ([] : List UInt8)) = true := bne_iff_ne.mpr hne
      rw [h1]
      simpa using hj
    · have h0 : milli v = [] := by unfold milli; rw [if_neg hv]
      have hr : r = (0, false) := by
        rcases e3 with h | ⟨u, u1, u2, u3, _⟩
        · exact h
        · exact absurd (u3.trans h0) (milli_ne u u1 u2)
      rw [hr, h0]
      simpa using hj
end Go.Proofs.YtjelbcdloocacaaDoor.PureMillis
