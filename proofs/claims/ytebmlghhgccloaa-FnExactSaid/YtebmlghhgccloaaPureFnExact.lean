/-
The law FnExact answers true for every list of bytes: MulDiv rounded down and up, FloorDiv and CeilDiv, and CompareRatios turned, at the numbers that are drawn out of the list, are as the law asks.
Conditions: No condition beyond the list's size in the model (2^47 - 4096 bytes).
-/
import Derived.Test.YtebmlghhgccloaaQEx
namespace Go.Proofs.Ytebmlghhgccloaa.Pure
open Go.RowKit Go.Proofs.Ytebmlghhgccloaa.QE Go.Proofs.YtebmlghhgccloaaW.PrintWords Go.Proofs.YtebmlghhgccloaaW.PrintLast Go.Proofs.YtebmlghhgccloaaW.PrintMore
namespace FnExactP
theorem wi (x : Int) (h1 : -9223372036854775808 ≤ x) (h2 : x ≤ 9223372036854775807) : wrap64 x = x := by unfold wrap64; omega
theorem and255 (n : Int) : Go.bits .and .i64 n 255 = n % 256 := by
  have h255 : (BitVec.ofInt 64 255).toNat = 2 ^ 8 - 1 := by decide
  have key : (BitVec.ofInt 64 n &&& BitVec.ofInt 64 255).toNat = (n % ((2 ^ 64 : Nat) : Int)).toNat % 2 ^ 8 := by
    rw [BitVec.toNat_and, BitVec.toNat_ofInt, h255, Nat.and_two_pow_sub_one_eq_mod]
  show IntKind.i64.wrap ((BitVec.ofInt 64 n &&& BitVec.ofInt 64 255).toNat : Nat) = n % 256
  rw [key, IntKind.wrap_i64]
  omega
theorem new_l0 (b : List Int) (hb : b.length ≤ 1048576) (d : Nat) : ∀ (k : Nat) (h i : Int), 0 ≤ i → i ≤ b.length → (b.length : Int) - i = d → d < k → ∃ h', spec_l01New.l0 k b h i = some (b, 0, h') := by
  induction d with
  | zero =>
    intro k h i h0 h1 hd hk
    obtain ⟨k, rfl⟩ : ∃ m, k = m + 1 := ⟨k - 1, by omega⟩
    simp only [spec_l01New.l0]; rw [if_neg (by omega)]; exact ⟨_, rfl⟩
  | succ d ih =>
    intro k h i h0 h1 hd hk
    obtain ⟨k, rfl⟩ : ∃ m, k = m + 1 := ⟨k - 1, by omega⟩
    have hlt : i < (b.length : Int) := by omega
    simp only [spec_l01New.l0]; rw [if_pos hlt]
    by_cases h4 : i < 4000
    · rw [if_pos h4, if_pos h0, wi (i + 1) (by omega) (by omega)]
      exact ih k _ (i + 1) (by omega) (by omega) (by omega) (by omega)
    · rw [if_neg h4]; exact ⟨_, rfl⟩
theorem new_some (b : List Int) (hb : b.length ≤ 1048576) (k : Nat) (hk : b.length < k) : ∃ h, spec_l01New.f k b = some (b, 0, h) := by
  unfold spec_l01New.f
  exact new_l0 b hb b.length k _ 0 (by omega) (by omega) (by omega) hk
theorem byte_some (b : List Int) (i h : Int) (hb : b.length ≤ 1048576) (h0 : 0 ≤ i) (h1 : i ≤ b.length) : ∃ x i' h', spec_l01Byte.f b i h = some (x, i', h') ∧ 0 ≤ x ∧ x ≤ 255 ∧ 0 ≤ i' ∧ i' ≤ b.length := by
  unfold spec_l01Byte.f
  by_cases hlt : i < (b.length : Int)
  · rw [if_pos hlt, if_pos h0, wi (i + 1) (by omega) (by omega), and255]
    refine ⟨_, _, _, rfl, ?_⟩
    omega
  · rw [if_neg hlt, and255]
    refine ⟨_, _, _, rfl, ?_⟩
    omega
theorem tmod_range (x n : Int) (hx : 0 ≤ x) (hn : 1 ≤ n) : 0 ≤ Int.tmod x n ∧ Int.tmod x n < n := by
  rw [Int.tmod_eq_emod_of_nonneg hx]
  exact ⟨Int.emod_nonneg _ (by omega), Int.emod_lt_of_pos _ (by omega)⟩
theorem below_some (b : List Int) (i h n : Int) (hb : b.length ≤ 1048576) (h0 : 0 ≤ i) (h1 : i ≤ b.length) (hn : 1 ≤ n) : ∃ r i' h', spec_l01Below.f b i h n = some (r, i', h') ∧ 0 ≤ r ∧ r < n ∧ 0 ≤ i' ∧ i' ≤ b.length := by
  unfold spec_l01Below.f
  rw [if_neg (by omega)]
  obtain ⟨x, i1, g1, e1, x0, x1, a0, a1⟩ := byte_some b i h hb h0 h1
  rw [e1]
  simp only [Option.bind_some]
  by_cases h256 : n ≤ 256
  · rw [if_pos h256, if_neg (by omega)]
    have := tmod_range x n x0 hn
    exact ⟨_, _, _, rfl, this.1, this.2, a0, a1⟩
  · rw [if_neg h256]
    obtain ⟨y, i2, g2, e2, y0, y1, b0, b1⟩ := byte_some b i1 g1 hb a0 a1
    rw [e2]
    simp only [Option.bind_some]
    obtain ⟨z, i3, g3, e3, z0, z1, c0, c1⟩ := byte_some b i2 g2 hb b0 b1
    rw [e3]
    simp only [Option.bind_some]
    rw [if_neg (by omega), wi (x * 65536) (by omega) (by omega), wi (y * 256) (by omega) (by omega), wi (x * 65536 + y * 256) (by omega) (by omega), wi (x * 65536 + y * 256 + z) (by omega) (by omega)]
    have := tmod_range (x * 65536 + y * 256 + z) n (by omega) hn
    exact ⟨_, _, _, rfl, this.1, this.2, c0, c1⟩
theorem pick_some (b : List Int) (i h : Int) (l : List Int) (hb : b.length ≤ 1048576) (h0 : 0 ≤ i) (h1 : i ≤ b.length) (hl : 1 ≤ l.length) : ∃ j i' h', spec_l01PickInt.f b i h l = some (rd l j, i', h') ∧ 0 ≤ j ∧ j < l.length ∧ 0 ≤ i' ∧ i' ≤ b.length := by
  unfold spec_l01PickInt.f
  obtain ⟨r, i1, g1, e1, r0, r1, a0, a1⟩ := below_some b i h (l.length : Int) hb h0 h1 (by omega)
  rw [e1]
  simp only [Option.bind_some]
  rw [if_pos r0, if_pos r1]
  exact ⟨r, i1, g1, rfl, r0, r1, a0, a1⟩
theorem rd_in (l : List Int) (j : Int) (h0 : 0 ≤ j) (h1 : j < l.length) (p : Int → Prop) (hp : ∀ x ∈ l, p x) : p (rd l j) := by
  have hl : j.toNat < l.length := by omega
  have : rd l j = l[j.toNat] := by simp [rd, List.getD_eq_getElem?_getD, List.getElem?_eq_getElem hl]
  rw [this]
  exact hp _ (List.getElem_mem hl)
theorem size_some (b : List Int) (i h : Int) (hb : b.length ≤ 1048576) (h0 : 0 ≤ i) (h1 : i ≤ b.length) : ∃ v i' h', spec_l01DrawSize.f b i h = some (v, i', h') ∧ -1 ≤ v ∧ v ≤ 1000000001 ∧ 0 ≤ i' ∧ i' ≤ b.length := by
  unfold spec_l01DrawSize.f
  obtain ⟨x, i1, g1, e1, x0, x1, a0, a1⟩ := below_some b i h 100 hb h0 h1 (by omega)
  rw [e1]
  simp only [Option.bind_some]
  obtain ⟨y, i2, g2, e2, y0, y1, b0, b1⟩ := below_some b i1 g1 100 hb a0 a1 (by omega)
  rw [e2]
  simp only [Option.bind_some]
  obtain ⟨z, i3, g3, e3, z0, z1, c0, c1⟩ := below_some b i2 g2 16777216 hb b0 b1 (by omega)
  rw [e3]
  simp only [Option.bind_some]
  rw [wi (y * 1000) (by omega) (by omega)]
  obtain ⟨j, i4, g4, e4, j0, j1, d0, d1⟩ := pick_some b i3 g3 [0, 1, x, y * 1000, z, 1000000000, 999999999, 1000000001, -1] hb c0 c1 (by simp)
  rw [e4]
  simp only [Option.bind_some]
  have hr := rd_in [0, 1, x, y * 1000, z, 1000000000, 999999999, 1000000001, -1] j j0 j1 (fun v => -1 ≤ v ∧ v ≤ 1000000001) (by
    intro v hv
    simp only [List.mem_cons, List.not_mem_nil, or_false] at hv
    omega)
  exact ⟨_, _, _, rfl, hr.1, hr.2, d0, d1⟩
theorem once_some (b : List Int) (i h n : Int) (hb : b.length ≤ 1048576) (h0 : 0 ≤ i) (h1 : i ≤ b.length) (hn : 1 ≤ n) : ∃ r i' h', spec_l01Once.f b i h n = some (r, i', h') ∧ 0 ≤ i' ∧ i' ≤ b.length := by
  unfold spec_l01Once.f
  obtain ⟨x, i1, g1, e1, x0, x1, a0, a1⟩ := below_some b i h n hb h0 h1 hn
  rw [e1]
  simp only [Option.bind_some]
  exact ⟨_, _, _, rfl, a0, a1⟩
theorem value_some (b : List Int) (i h : Int) (hb : b.length ≤ 1048576) (h0 : 0 ≤ i) (h1 : i ≤ b.length) : ∃ v i' h', spec_l01DrawValue.f b i h = some (v, i', h') ∧ -1000000001 ≤ v ∧ v ≤ 1000000001 ∧ 0 ≤ i' ∧ i' ≤ b.length := by
  unfold spec_l01DrawValue.f
  obtain ⟨v, i1, g1, e1, v0, v1, a0, a1⟩ := size_some b i h hb h0 h1
  rw [e1]
  simp only [Option.bind_some]
  obtain ⟨o, i2, g2, e2, b0, b1⟩ := once_some b i1 g1 3 hb a0 a1 (by omega)
  rw [e2]
  simp only [Option.bind_some]
  cases o
  · rw [if_neg (by decide)]; exact ⟨_, _, _, rfl, by omega, by omega, b0, b1⟩
  · rw [if_pos rfl, wi (-v) (by omega) (by omega)]; exact ⟨_, _, _, rfl, by omega, by omega, b0, b1⟩
theorem alt_l0_short (b : List Int) (hb : b.length ≤ 1048576) (d : Nat) : ∀ (k : Nat) (o : List Int) (i : Int), 0 ≤ i → i ≤ b.length → (b.length : Int) - i = d → d < k → (o.length : Int) = i + 1 → i ≤ 3000 → ∃ o', laws_alt.l0 k b o i = some o' ∧ o'.length ≤ 3001 := by
  induction d with
  | zero =>
    intro k o i h0 h1 hd hk ho hi
    obtain ⟨k, rfl⟩ : ∃ m, k = m + 1 := ⟨k - 1, by omega⟩
    simp only [laws_alt.l0]; rw [if_neg (by omega)]; exact ⟨_, rfl, by omega⟩
  | succ d ih =>
    intro k o i h0 h1 hd hk ho hi
    obtain ⟨k, rfl⟩ : ∃ m, k = m + 1 := ⟨k - 1, by omega⟩
    have hlt : i < (b.length : Int) := by omega
    simp only [laws_alt.l0]; rw [if_pos hlt]
    by_cases h3 : i < 3000
    · rw [if_pos h3, if_pos h0, if_pos (by omega), wi (i + 1) (by omega) (by omega)]
      exact ih k _ (i + 1) (by omega) (by omega) (by omega) (by omega) (by simp; omega) (by omega)
    · rw [if_neg h3]; exact ⟨_, rfl, by omega⟩
theorem alt_some (b : List Int) (c : Int) (hb : b.length ≤ 1048576) (k : Nat) (hk : b.length < k) : ∃ o, laws_alt.f k b c = some o ∧ o.length ≤ 3001 := by
  unfold laws_alt.f
  exact alt_l0_short b hb b.length k _ 0 (by omega) (by omega) (by omega) hk (by simp) (by omega)
def floorv (x d : Int) : Int := if Int.tmod x d < 0 then Int.tdiv x d - 1 else Int.tdiv x d
def ceilv (x d : Int) : Int := if Int.tmod x d > 0 then Int.tdiv x d + 1 else Int.tdiv x d
/-- Quotient and remainder, for linear arithmetic. -/
theorem parts (x d : Int) (hd : 1 ≤ d) : ∃ q r, Int.tdiv x d = q ∧ Int.tmod x d = r ∧ r + d * q = x ∧ -d < r ∧ r < d ∧ q.natAbs ≤ x.natAbs ∧ (0 ≤ x → 0 ≤ r ∧ 0 ≤ q) := by
  refine ⟨_, _, rfl, rfl, Int.tmod_add_mul_tdiv x d, Int.lt_tmod_of_pos x (by omega), Int.tmod_lt_of_pos x (by omega), Int.natAbs_tdiv_le_natAbs x d, fun hx => ⟨Int.tmod_nonneg d hx, Int.tdiv_nonneg hx (by omega)⟩⟩
theorem floor_some (x d : Int) (h1 : -2000000000000000000 ≤ x) (h2 : x ≤ 2000000000000000000) : impl_FloorDiv.f x d = some (if d < 1 then 0 else floorv x d) := by
  unfold impl_FloorDiv.f floorv
  by_cases hd : d < 1
  · rw [if_pos hd, if_pos hd]
  · rw [if_neg hd, if_neg hd, if_neg (by omega)]
    obtain ⟨q, r, e1, e2, _, _, _, hq, _⟩ := parts x d (by omega)
    rw [e1, e2, wi q (by omega) (by omega), wi (q - 1) (by omega) (by omega)]
    by_cases h : r < 0
    · rw [if_pos h, if_pos h]
    · rw [if_neg h, if_neg h]
theorem ceil_some (x d : Int) (h1 : -2000000000000000000 ≤ x) (h2 : x ≤ 2000000000000000000) : impl_CeilDiv.f x d = some (if d < 1 then 0 else ceilv x d) := by
  unfold impl_CeilDiv.f ceilv
  by_cases hd : d < 1
  · rw [if_pos hd, if_pos hd]
  · rw [if_neg hd, if_neg hd, if_neg (by omega)]
    obtain ⟨q, r, e1, e2, _, _, _, hq, _⟩ := parts x d (by omega)
    rw [e1, e2, wi q (by omega) (by omega), wi (q + 1) (by omega) (by omega)]
    by_cases h : r > 0
    · rw [if_pos h, if_pos h]
    · rw [if_neg h, if_neg h]
theorem floor_same (x d : Int) : spec_FloorDiv.f x d = impl_FloorDiv.f x d := rfl
theorem ceil_same (x d : Int) : spec_CeilDiv.f x d = impl_CeilDiv.f x d := rfl
theorem amt (a : Int) : spec_l01Amt.f a = some (decide (0 ≤ a ∧ a ≤ 1000000000)) := by
  unfold spec_l01Amt.f spec_l01In.f
  by_cases h : 0 ≤ a <;> simp [h]
theorem partv (a : Int) : spec_l01In.f a 1 1000000000 = some (decide (1 ≤ a ∧ a ≤ 1000000000)) := by
  unfold spec_l01In.f
  by_cases h : 1 ≤ a <;> simp [h]
theorem amt' (a : Int) : impl_isSize.f a = some (decide (0 ≤ a ∧ a ≤ 1000000000)) := by
  unfold impl_isSize.f impl_in.f
  by_cases h : 0 ≤ a <;> simp [h]
theorem partv' (a : Int) : impl_isPart.f a = some (decide (1 ≤ a ∧ a ≤ 1000000000)) := by
  unfold impl_isPart.f impl_in.f
  by_cases h : 1 ≤ a <;> simp [h]
theorem mul_range (a b : Int) (ha : 0 ≤ a ∧ a ≤ 1000000000) (hb : 0 ≤ b ∧ b ≤ 1000000000) : 0 ≤ a * b ∧ a * b ≤ 1000000000000000000 := by
  refine ⟨Int.mul_nonneg ha.1 hb.1, ?_⟩
  have := Int.mul_le_mul ha.2 hb.2 hb.1 (by decide : (0 : Int) ≤ 1000000000)
  omega
/-- MulDiv, both ways: the same answers; where it says yes, what it is. -/
theorem muldiv (a b c : Int) (up : Bool) (k : Nat) (hk : 1 ≤ k) : ∃ r ok, impl_MulDiv.f k a b c up = some (r, ok) ∧ spec_MulDiv.f k a b c up = some (r, ok) ∧
    (ok = true → (0 ≤ a ∧ a ≤ 1000000000) ∧ (0 ≤ b ∧ b ≤ 1000000000) ∧ (1 ≤ c ∧ c ≤ 1000000000) ∧ r ≤ 1000000000 ∧ r = if up = true then ceilv (a * b) c else floorv (a * b) c) := by
  obtain ⟨k, rfl⟩ : ∃ m, k = m + 1 := ⟨k - 1, by omega⟩
  unfold spec_MulDiv.f impl_MulDiv.f
  rw [amt, amt', amt, amt', partv, partv']
  by_cases ha : 0 ≤ a ∧ a ≤ 1000000000
  · by_cases hb : 0 ≤ b ∧ b ≤ 1000000000
    · by_cases hc : 1 ≤ c ∧ c ≤ 1000000000
      · have hm := mul_range a b ha hb
        have e1 := wi (a * b) (by omega) (by omega)
        have F := floor_some (a * b) c (by omega) (by omega)
        have C := ceil_some (a * b) c (by omega) (by omega)
        rw [if_neg (by omega)] at F C
        cases up
        · by_cases h : floorv (a * b) c > 1000000000
          · refine ⟨1000000000, false, ?_, ?_, fun h => by cases h⟩ <;> simp [ha, hb, hc, impl_MulDiv.j0, spec_MulDiv.j0, e1, floor_same, F, h]
          · refine ⟨floorv (a * b) c, true, ?_, ?_, fun _ => ⟨ha, hb, hc, by omega, by simp⟩⟩ <;> simp [ha, hb, hc, impl_MulDiv.j0, spec_MulDiv.j0, e1, floor_same, F] <;> omega
        · by_cases h : ceilv (a * b) c > 1000000000
          · refine ⟨1000000000, false, ?_, ?_, fun h => by cases h⟩ <;> simp [ha, hb, hc, impl_MulDiv.j0, spec_MulDiv.j0, e1, floor_same, ceil_same, F, C, h]
          · refine ⟨ceilv (a * b) c, true, ?_, ?_, fun _ => ⟨ha, hb, hc, by omega, by simp⟩⟩ <;> simp [ha, hb, hc, impl_MulDiv.j0, spec_MulDiv.j0, e1, floor_same, ceil_same, F, C] <;> omega
      · simp only [ha, hb, hc, and_self, decide_true, decide_false, Option.bind_some, if_true, Bool.not_false, impl_MulDiv.j0, spec_MulDiv.j0]
        exact ⟨_, _, rfl, rfl, fun h => by cases h⟩
    · simp only [ha, hb, and_self, decide_true, decide_false, Option.bind_some, if_true, impl_MulDiv.j0, spec_MulDiv.j0]
      exact ⟨_, _, rfl, rfl, fun h => by cases h⟩
  · simp only [ha, decide_false, Option.bind_some, impl_MulDiv.j0, spec_MulDiv.j0]
    exact ⟨_, _, rfl, rfl, fun h => by cases h⟩
theorem cmp_some (a b : Int) : cmp_Compare_int.f a b = some (if a < b then -1 else if a > b then 1 else 0) := by
  unfold cmp_Compare_int.f cmp_isNaN_int.f
  by_cases h : a < b <;> by_cases h' : a > b <;> simp [h, h']
def cmpv (x y : Int) : Int := if x < y then -1 else if x > y then 1 else 0
/-- Do the four numbers make two ratios? -/
def ratios (a b c d : Int) : Bool := decide (0 ≤ a ∧ a ≤ 1000000000) && decide (0 ≤ c ∧ c ≤ 1000000000) && decide (1 ≤ b ∧ b ≤ 1000000000) && decide (1 ≤ d ∧ d ≤ 1000000000)
theorem ratio_impl (a b c d : Int) : impl_CompareRatios.f a b c d = some (if ratios a b c d = true then cmpv (wrap64 (a * d)) (wrap64 (c * b)) else 2) := by
  unfold impl_CompareRatios.f ratios cmpv
  rw [amt', amt', partv', partv', cmp_some]
  by_cases ha : 0 ≤ a ∧ a ≤ 1000000000 <;> by_cases hc : 0 ≤ c ∧ c ≤ 1000000000 <;> by_cases hb : 1 ≤ b ∧ b ≤ 1000000000 <;> by_cases hd : 1 ≤ d ∧ d ≤ 1000000000 <;>
    simp [ha, hb, hc, hd]
theorem ratio_spec (a b c d : Int) (k : Nat) (hk : 1 ≤ k) : spec_CompareRatios.f k a b c d = some (if ratios a b c d = true then cmpv (wrap64 (a * d)) (wrap64 (c * b)) else 2) := by
  obtain ⟨k, rfl⟩ : ∃ m, k = m + 1 := ⟨k - 1, by omega⟩
  unfold spec_CompareRatios.f ratios cmpv
  rw [amt, amt, partv, partv]
  by_cases ha : 0 ≤ a ∧ a ≤ 1000000000 <;> by_cases hc : 0 ≤ c ∧ c ≤ 1000000000 <;> by_cases hb : 1 ≤ b ∧ b ≤ 1000000000 <;> by_cases hd : 1 ≤ d ∧ d ≤ 1000000000 <;>
    simp [ha, hb, hc, hd, spec_CompareRatios.j0]
  by_cases h : wrap64 (a * d) < wrap64 (c * b)
  · simp [h]
  · by_cases h' : wrap64 (c * b) < wrap64 (a * d) <;> simp [h, h']
theorem ratios_turn (a b c d : Int) : ratios c d a b = ratios a b c d := by
  unfold ratios
  by_cases ha : 0 ≤ a ∧ a ≤ 1000000000 <;> by_cases hc : 0 ≤ c ∧ c ≤ 1000000000 <;> by_cases hb : 1 ≤ b ∧ b ≤ 1000000000 <;> by_cases hd : 1 ≤ d ∧ d ≤ 1000000000 <;> simp [ha, hb, hc, hd]
theorem cmpv_turn (x y : Int) : cmpv y x = -cmpv x y ∧ cmpv x y ≠ 2 ∧ -1 ≤ cmpv x y ∧ cmpv x y ≤ 1 := by
  unfold cmpv
  rcases Int.lt_trichotomy x y with h | h | h
  · have h2 : ¬ y < x := by omega
    simp [h, h2]
  · subst h
    simp
  · have h2 : ¬ x < y := by omega
    simp [h, h2]
theorem drawMul_some (b : List Int) (hb : b.length ≤ 1048576) (k : Nat) (hk : b.length < k) : ∃ r, spec_DrawMulDiv.f k b = some r := by
  unfold spec_DrawMulDiv.f
  obtain ⟨h, e0⟩ := new_some b hb k hk
  rw [e0]
  simp only [Option.bind_some]
  obtain ⟨v, i1, g1, e1, _, _, a0, a1⟩ := size_some b 0 h hb (by omega) (by omega)
  rw [e1]
  simp only [Option.bind_some]
  obtain ⟨v2, i2, g2, e2, _, _, b0, b1⟩ := size_some b i1 g1 hb a0 a1
  rw [e2]
  simp only [Option.bind_some]
  obtain ⟨x, i3, g3, e3, _, _, c0, c1⟩ := below_some b i2 g2 9999 hb b0 b1 (by omega)
  rw [e3]
  simp only [Option.bind_some]
  obtain ⟨j, i4, g4, e4, _, _, d0, d1⟩ := pick_some b i3 g3 [1, 1000, wrap64 (1 + x), 1000000000, 0] hb c0 c1 (by simp)
  rw [e4]
  simp only [Option.bind_some]
  obtain ⟨o, i5, g5, e5, _, _⟩ := once_some b i4 g4 2 hb d0 d1 (by omega)
  rw [e5]
  exact ⟨_, rfl⟩
theorem drawFloor_some (b : List Int) (hb : b.length ≤ 1048576) (k : Nat) (hk : b.length < k) : ∃ x d, spec_DrawFloorDiv.f k b = some (x, d) ∧ -1000000001 ≤ x ∧ x ≤ 1000000001 ∧ -1 ≤ d ∧ d ≤ 999 := by
  unfold spec_DrawFloorDiv.f
  obtain ⟨h, e0⟩ := new_some b hb k hk
  rw [e0]
  simp only [Option.bind_some]
  obtain ⟨v, i1, g1, e1, v0, v1, a0, a1⟩ := value_some b 0 h hb (by omega) (by omega)
  rw [e1]
  simp only [Option.bind_some]
  obtain ⟨x, i2, g2, e2, x0, x1, b0, b1⟩ := below_some b i1 g1 999 hb a0 a1 (by omega)
  rw [e2]
  simp only [Option.bind_some]
  rw [wi (1 + x) (by omega) (by omega)]
  obtain ⟨j, i3, g3, e3, j0, j1, _, _⟩ := pick_some b i2 g2 [1, 2, 3, 1 + x, 0, -1] hb b0 b1 (by simp)
  rw [e3]
  have hr := rd_in [1, 2, 3, 1 + x, 0, -1] j j0 j1 (fun v => -1 ≤ v ∧ v ≤ 999) (by
    intro v hv
    simp only [List.mem_cons, List.not_mem_nil, or_false] at hv
    omega)
  exact ⟨_, _, rfl, v0, v1, hr.1, hr.2⟩
theorem drawRatios_some (b : List Int) (hb : b.length ≤ 1048576) (k : Nat) (hk : b.length < k) : ∃ r, spec_DrawCompareRatios.f k b = some r := by
  unfold spec_DrawCompareRatios.f
  obtain ⟨h, e0⟩ := new_some b hb k hk
  rw [e0]
  simp only [Option.bind_some]
  obtain ⟨v, i1, g1, e1, _, _, a0, a1⟩ := size_some b 0 h hb (by omega) (by omega)
  rw [e1]
  simp only [Option.bind_some]
  obtain ⟨x, i2, g2, e2, _, _, b0, b1⟩ := below_some b i1 g1 99 hb a0 a1 (by omega)
  rw [e2]
  simp only [Option.bind_some]
  obtain ⟨j, i3, g3, e3, _, _, c0, c1⟩ := pick_some b i2 g2 [1, 2, wrap64 (1 + x), 1000000000, 0] hb b0 b1 (by simp)
  rw [e3]
  simp only [Option.bind_some]
  obtain ⟨o, i4, g4, e4, d0, d1⟩ := once_some b i3 g3 3 hb c0 c1 (by omega)
  rw [e4]
  simp only [Option.bind_some]
  cases o
  · rw [if_neg (by decide)]
    obtain ⟨v5, i5, g5, e5, _, _, f0, f1⟩ := size_some b i4 g4 hb d0 d1
    rw [e5]
    simp only [Option.bind_some]
    obtain ⟨y, i6, g6, e6, _, _, p0, p1⟩ := below_some b i5 g5 99 hb f0 f1 (by omega)
    rw [e6]
    simp only [Option.bind_some]
    obtain ⟨j', i7, g7, e7, _, _, _, _⟩ := pick_some b i6 g6 [1, 2, wrap64 (1 + y), 1000000000, 0] hb p0 p1 (by simp)
    rw [e7]
    exact ⟨_, rfl⟩
  · rw [if_pos rfl]
    obtain ⟨y, i5, g5, e5, _, _, _, _⟩ := below_some b i4 g4 9 hb d0 d1 (by omega)
    rw [e5]
    exact ⟨_, rfl⟩
theorem third (b : List Int) (hb : b.length ≤ 1048576) (k : Nat) (hk : b.length + 3002 < k) : laws_FnExact.j2 (k + 1) b false = some true := by
  simp only [laws_FnExact.j2]
  rw [if_neg (by decide)]
  obtain ⟨o, e0, ho⟩ := alt_some b 2 hb k (by omega)
  rw [e0]
  simp only [Option.bind_some]
  obtain ⟨⟨p, q, r, s⟩, e1⟩ := drawRatios_some o (by omega) k (by omega)
  rw [e1]
  simp only [Option.bind_some]
  rw [ratio_impl, ratio_impl, ratio_spec p q r s k (by omega), ratios_turn p q r s]
  simp only [Option.bind_some, if_true]
  cases h : ratios p q r s
  · simp only [Bool.false_eq_true, if_false, if_true]
  · have ht := cmpv_turn (wrap64 (p * s)) (wrap64 (r * q))
    simp only [if_true]
    rw [if_neg ht.2.1, ht.1, wi (-cmpv (wrap64 (p * s)) (wrap64 (r * q))) (by omega) (by omega)]
    simp
theorem second (b : List Int) (hb : b.length ≤ 1048576) (k : Nat) (hk : b.length + 3002 < k) : laws_FnExact.j1 (k + 2) b false = some true := by
  simp only [laws_FnExact.j1]
  rw [if_neg (by decide)]
  obtain ⟨o, e0, ho⟩ := alt_some b 1 hb (k + 1) (by omega)
  rw [e0]
  simp only [Option.bind_some]
  obtain ⟨x, d, e1, x0, x1, d0, d1⟩ := drawFloor_some o (by omega) (k + 1) (by omega)
  rw [e1]
  simp only [Option.bind_some]
  rw [floor_some x d (by omega) (by omega), ceil_some x d (by omega) (by omega)]
  simp only [Option.bind_some]
  by_cases hd : d < 1
  · rw [if_neg (by omega), if_pos hd, if_pos hd]
    simp only [if_pos hd]
    exact third b hb k hk
  · rw [if_pos (by omega)]
    simp only [if_neg hd]
    obtain ⟨q, r, e2, e3, hx, hr0, hr1, hq, _⟩ := parts x d (by omega)
    have f1 : floorv x d * d = if r < 0 then d * q - d else d * q := by
      unfold floorv
      rw [e2, e3]
      by_cases h : r < 0
      · rw [if_pos h, if_pos h, Int.sub_mul, Int.one_mul, Int.mul_comm q d]
      · rw [if_neg h, if_neg h, Int.mul_comm q d]
    have f2 : (floorv x d + 1) * d = if r < 0 then d * q else d * q + d := by
      rw [Int.add_mul, Int.one_mul, f1]
      by_cases h : r < 0
      · rw [if_pos h, if_pos h]; omega
      · rw [if_neg h, if_neg h]
    have g1 : ceilv x d * d = if r > 0 then d * q + d else d * q := by
      unfold ceilv
      rw [e2, e3]
      by_cases h : r > 0
      · rw [if_pos h, if_pos h, Int.add_mul, Int.one_mul, Int.mul_comm q d]
      · rw [if_neg h, if_neg h, Int.mul_comm q d]
    have g2 : (ceilv x d - 1) * d = if r > 0 then d * q else d * q - d := by
      rw [Int.sub_mul, Int.one_mul, g1]
      by_cases h : r > 0
      · rw [if_pos h, if_pos h]; omega
      · rw [if_neg h, if_neg h]
    have fr : -1000000002 ≤ floorv x d ∧ floorv x d ≤ 1000000002 := by
      unfold floorv
      rw [e2, e3]
      by_cases h : r < 0
      · rw [if_pos h]; omega
      · rw [if_neg h]; omega
    have gr : -1000000002 ≤ ceilv x d ∧ ceilv x d ≤ 1000000002 := by
      unfold ceilv
      rw [e2, e3]
      by_cases h : r > 0
      · rw [if_pos h]; omega
      · rw [if_neg h]; omega
    rw [wi (floorv x d + 1) (by omega) (by omega), wi (ceilv x d - 1) (by omega) (by omega), f1, f2, g1, g2]
    have b1 : (if r < 0 then d * q - d else d * q) ≤ x ∧ -2000000000 ≤ (if r < 0 then d * q - d else d * q) ∧ (if r < 0 then d * q - d else d * q) ≤ 2000000000 := by split <;> omega
    have b2 : x < (if r < 0 then d * q else d * q + d) ∧ -2000000000 ≤ (if r < 0 then d * q else d * q + d) ∧ (if r < 0 then d * q else d * q + d) ≤ 2000000000 := by split <;> omega
    have b3 : x ≤ (if r > 0 then d * q + d else d * q) ∧ -2000000000 ≤ (if r > 0 then d * q + d else d * q) ∧ (if r > 0 then d * q + d else d * q) ≤ 2000000000 := by split <;> omega
    have b4 : (if r > 0 then d * q else d * q - d) < x ∧ -2000000000 ≤ (if r > 0 then d * q else d * q - d) ∧ (if r > 0 then d * q else d * q - d) ≤ 2000000000 := by split <;> omega
    rw [wi (if r < 0 then d * q - d else d * q) (by omega) (by omega), wi (if r < 0 then d * q else d * q + d) (by omega) (by omega), wi (if r > 0 then d * q + d else d * q) (by omega) (by omega), wi (if r > 0 then d * q else d * q - d) (by omega) (by omega)]
    rw [if_neg (by omega), if_neg (by omega), if_neg (by omega), if_neg (by omega)]
    exact third b hb k hk
theorem first_ (b : List Int) (hb : b.length ≤ 1048576) (k : Nat) (hk : b.length + 3002 < k) (x3 x4 x5 x7 x9 : Int) (x8 x10 : Bool)
    (h8 : x8 = true → (0 ≤ x3 ∧ x3 ≤ 1000000000) ∧ (0 ≤ x4 ∧ x4 ≤ 1000000000) ∧ (1 ≤ x5 ∧ x5 ≤ 1000000000) ∧ x7 ≤ 1000000000 ∧ x7 = floorv (x3 * x4) x5)
    (h10 : x10 = true → (0 ≤ x3 ∧ x3 ≤ 1000000000) ∧ (0 ≤ x4 ∧ x4 ≤ 1000000000) ∧ (1 ≤ x5 ∧ x5 ≤ 1000000000) ∧ x9 ≤ 1000000000 ∧ x9 = ceilv (x3 * x4) x5) :
    laws_FnExact.j0 (k + 3) b x3 x4 x5 x7 x8 x9 x10 false = some true := by
  simp only [laws_FnExact.j0]
  rw [if_neg (by decide)]
  cases x8
  · rw [if_neg (by decide)]; exact second b hb k hk
  · rw [if_pos rfl]
    cases x10
    · rw [if_neg (by decide)]; exact second b hb k hk
    · rw [if_pos rfl]
      obtain ⟨ha, hb', hc, hl, el⟩ := h8 rfl
      obtain ⟨_, _, _, hh, eh⟩ := h10 rfl
      have hm := mul_range x3 x4 ha hb'
      rw [wi (x3 * x4) (by omega) (by omega)]
      generalize x3 * x4 = X at *
      obtain ⟨q, r, e2, e3, hx, hr0, hr1, hq, hp⟩ := parts X x5 hc.1
      obtain ⟨p1, p2⟩ := hp hm.1
      have f0 : x7 = q := by
        rw [el]
        unfold floorv
        rw [e2, e3, if_neg (by omega)]
      have f1 : x7 * x5 = x5 * q := by rw [f0, Int.mul_comm]
      have g0 : x9 = if r > 0 then q + 1 else q := by
        rw [eh]
        unfold ceilv
        rw [e2, e3]
      have g1 : x9 * x5 = if r > 0 then x5 * q + x5 else x5 * q := by
        rw [g0]
        by_cases h : r > 0
        · rw [if_pos h, if_pos h, Int.add_mul, Int.one_mul, Int.mul_comm]
        · rw [if_neg h, if_neg h, Int.mul_comm]
      rw [f1, g1, e3, f0, g0]
      by_cases h : r > 0
      · rw [if_pos h, if_pos h, wi (x5 * q) (by omega) (by omega), wi (x5 * q + x5) (by omega) (by omega), wi (q + 1 - q) (by omega) (by omega)]
        rw [if_neg (by omega), if_neg (by omega), if_neg (by omega), if_neg (by omega), if_neg (by omega)]
        have h1 : ((q + 1 == q) : Bool) = false := by rw [beq_eq_false_iff_ne]; omega
        have h2 : ((r == 0) : Bool) = false := by rw [beq_eq_false_iff_ne]; omega
        rw [h1, h2]
        exact second b hb k hk
      · rw [if_neg h, if_neg h, wi (x5 * q) (by omega) (by omega), wi (q - q) (by omega) (by omega)]
        rw [if_neg (by omega), if_neg (by omega), if_neg (by omega), if_neg (by omega), if_neg (by omega)]
        have h1 : ((q == q) : Bool) = true := by simp
        have h2 : ((r == 0) : Bool) = true := by rw [beq_iff_eq]; omega
        rw [h1, h2]
        exact second b hb k hk
end FnExactP
open FnExactP
theorem FnExact (l : List Int) (_ : l.length ≤ maxLen) (_ : l.length * 1 ≤ 140737488351232) (_ : ∀ x ∈ l, (Lit.int .u8 x).wf = true) : ∃ k, laws_FnExact.f k l = some true := by
  refine ⟨l.length + 3010, ?_⟩
  unfold laws_FnExact.f laws_big.f
  simp only [Option.bind_some]
  by_cases h : (l.length : Int) > 1048576
  · rw [if_pos (decide_eq_true h)]
  · rw [if_neg (by simpa using h)]
    obtain ⟨⟨a, b, c, u⟩, e0⟩ := drawMul_some l (by omega) (l.length + 3010) (by omega)
    rw [e0]
    simp only [Option.bind_some]
    obtain ⟨r1, o1, e1, e1', h1⟩ := muldiv a b c false (l.length + 3010) (by omega)
    obtain ⟨r2, o2, e2, e2', h2⟩ := muldiv a b c true (l.length + 3010) (by omega)
    rw [e1, e1', e2, e2']
    simp only [Option.bind_some]
    rw [if_neg (by simp), if_neg (by simp)]
    simp only [if_true, bne_self_eq_false]
    exact first_ l (by omega) (l.length + 3007) (by omega) a b c r1 r2 o1 o2 (fun h => by have := h1 h; simpa using this) (fun h => by have := h2 h; simpa using this)
end Go.Proofs.Ytebmlghhgccloaa.Pure
