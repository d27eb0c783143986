/-
What the law FnExactSampleOk's printed function answers: true, for every sample.
Conditions: the two strings have at most 2^47 - 4096 bytes each.
-/
import Derived.Test.YtfekocllfmajkaaPFnExactSampleOkx1
namespace Go.Proofs.Ytfekocllfmajkaa.Pure
open Go.RowKit Go.Proofs.Ytfekocllfmajkaa.PFnExactSampleOk Go.Proofs.YtfekocllfmajkaaW.PrintWords Go.Proofs.YtfekocllfmajkaaW.PrintLast Go.Proofs.YtfekocllfmajkaaW.PrintMore
namespace FnExactSampleOkP
theorem wi (x : Int) (h1 : -9223372036854775808 ≤ x) (h2 : x ≤ 9223372036854775807) : wrap64 x = x := by unfold wrap64; omega
theorem in_some (n : Int) : spec_l01In.f n 1 12 = some (decide (1 ≤ n ∧ n ≤ 12)) := by
  unfold spec_l01In.f
  by_cases h : 1 ≤ n
  · rw [if_pos h]; simp [h]
  · rw [if_neg h]; simp [h]
theorem in_some' (n : Int) : impl_in.f n 1 12 = some (decide (1 ≤ n ∧ n ≤ 12)) := in_some n
theorem loops (s : ByteArray) (hs : s.size ≤ 1048576) (d : Nat) : ∀ (k : Nat) (i : Int), 0 ≤ i → i ≤ s.size → (s.size : Int) - i = d → d < k →
    ∃ b, spec_NameOk.l0 k s i = some b ∧ impl_NameOk.l0 k s (s.size : Int) i = some (b && decide (1 ≤ (s.size : Int) ∧ (s.size : Int) ≤ 12)) := by
  induction d with
  | zero =>
    intro k i h0 h1 hd hk
    obtain ⟨k, rfl⟩ : ∃ m, k = m + 1 := ⟨k - 1, by omega⟩
    refine ⟨true, ?_, ?_⟩
    · simp only [spec_NameOk.l0]; rw [if_neg (by omega)]
    · simp only [impl_NameOk.l0]; rw [if_neg (by omega), in_some']; simp
  | succ d ih =>
    intro k i h0 h1 hd hk
    obtain ⟨k, rfl⟩ : ∃ m, k = m + 1 := ⟨k - 1, by omega⟩
    have hlt : i < (s.size : Int) := by omega
    obtain ⟨b, hb, hb'⟩ := ih k (i + 1) (by omega) (by omega) (by omega) (by omega)
    simp only [spec_NameOk.l0, impl_NameOk.l0]
    rw [if_pos hlt, if_pos h0, if_pos hlt, if_pos h0, if_pos hlt, wi (i + 1) (by omega) (by omega), hb, hb']
    by_cases c1 : bt s i < 97 <;> by_cases c2 : bt s i < 48 <;> by_cases c3 : bt s i > 57 <;> by_cases c4 : bt s i > 122 <;> simp [c1, c2, c3, c4]
theorem name_same (s : ByteArray) (hs : s.size ≤ 1048576) (k : Nat) (hk : s.size < k) : ∃ b, spec_NameOk.f k s = some b ∧ impl_NameOk.f k s = some b := by
  obtain ⟨b, h1, h2⟩ := loops s hs s.size k 0 (by omega) (by omega) (by omega) hk
  unfold spec_NameOk.f impl_NameOk.f
  rw [in_some, h2]
  by_cases c : 1 ≤ (s.size : Int) ∧ (s.size : Int) ≤ 12
  · exact ⟨b, by simp [c, h1], by simp [c]⟩
  · exact ⟨false, by simp [c], by simp [c]⟩
theorem amt (a : Int) : spec_l01Amt.f a = some (decide (0 ≤ a ∧ a ≤ 1000000000)) := by
  unfold spec_l01Amt.f spec_l01In.f
  by_cases h : 0 ≤ a <;> simp [h]
theorem amt' (a : Int) : impl_isSize.f a = some (decide (0 ≤ a ∧ a ≤ 1000000000)) := by
  unfold impl_isSize.f impl_in.f
  by_cases h : 0 ≤ a <;> simp [h]
theorem tick (a : Int) : spec_l02Tick.f a = some (decide (0 ≤ a ∧ a ≤ 1000000000)) := amt a
theorem tick' (a : Int) : impl_isTick.f a = some (decide (0 ≤ a ∧ a ≤ 1000000000)) := amt' a
theorem sample_same (p m : ByteArray) (v t : Int) (hp : p.size ≤ 1048576) (hm : m.size ≤ 1048576) (k : Nat) (hk : 1048576 < k) : ∃ b, spec_SampleOk.f k p m v t = some b ∧ impl_SampleOk.f k p m v t = some b := by
  obtain ⟨a, a1, a2⟩ := name_same p hp k (by omega)
  obtain ⟨b, b1, b2⟩ := name_same m hm k (by omega)
  unfold spec_SampleOk.f impl_SampleOk.f
  rw [a1, a2, b1, b2, amt, amt', tick, tick']
  cases a
  · exact ⟨false, rfl, rfl⟩
  · cases b
    · exact ⟨false, rfl, rfl⟩
    · by_cases hv : 0 ≤ v ∧ v ≤ 1000000000
      · exact ⟨decide (0 ≤ t ∧ t ≤ 1000000000), by simp [hv], by simp [hv]⟩
      · exact ⟨false, by simp [hv], by simp [hv]⟩
end FnExactSampleOkP
open FnExactSampleOkP
theorem FnExactSampleOk (p m : ByteArray) (v t : Int) (hp : p.size ≤ 140737488351232) (hm : m.size ≤ 140737488351232) : ∃ k, laws_FnExactSampleOk.f k p m v t = some true := by
  refine ⟨1048577, ?_⟩
  unfold laws_FnExactSampleOk.f laws_szSample.f
  rw [wi (1048576 - (p.size : Int)) (by omega) (by omega), wi (1048576 - (p.size : Int) - (m.size : Int)) (by omega) (by omega)]
  by_cases h1 : (1048576 : Int) - (p.size : Int) < 0
  · rw [if_pos h1]; rfl
  · rw [if_neg h1]
    by_cases h2 : (1048576 : Int) - (p.size : Int) - (m.size : Int) < 0
    · rw [if_pos h2]; rfl
    · rw [if_neg h2]
      simp only [Option.bind_some]
      rw [if_neg h2]
      obtain ⟨b, b1, b2⟩ := sample_same p m v t (by omega) (by omega) 1048577 (by omega)
      simp only [laws_toSample.f, Option.bind_some]
      rw [b1, b2]
      simp
end Go.Proofs.Ytfekocllfmajkaa.Pure
