/-
The law FnExactNameOk answers true for every string: the program's NameOk and the reference's return the same bool (a string above 2^20 bytes is let through by the law itself).
Conditions: No condition beyond the string's size in the model, 2^47 - 4096 bytes.
-/
import Derived.Test.YtfekocllfmajkaaPFnExactNameOkx1
namespace Go.Proofs.Ytfekocllfmajkaa.Pure
open Go.RowKit Go.Proofs.Ytfekocllfmajkaa.PFnExactNameOk Go.Proofs.YtfekocllfmajkaaW.PrintWords Go.Proofs.YtfekocllfmajkaaW.PrintLast Go.Proofs.YtfekocllfmajkaaW.PrintMore
namespace FnExactNameOkP
theorem wi (x : Int) (h1 : -9223372036854775808 ≤ x) (h2 : x ≤ 9223372036854775807) : wrap64 x = x := by unfold wrap64; omega
theorem in_some (n : Int) : spec_l01In.f n 1 12 = some (decide (1 ≤ n ∧ n ≤ 12)) := by
  unfold spec_l01In.f
  by_cases h : 1 ≤ n
  · rw [if_pos h]; simp [h]
  · rw [if_neg h]; simp [h]
theorem in_some' (n : Int) : impl_in.f n 1 12 = some (decide (1 ≤ n ∧ n ≤ 12)) := in_some n
theorem loops (s : ByteArray) (hs : s.size ≤ 1048576) (d : Nat) : ∀ (k : Nat) (i : Int), 0 ≤ i → i ≤ s.size → (s.size : Int) - i = d → d < k →
    ∃ b, spec_NameOk.l0 k s i = some b ∧ impl_NameOk.l0 k s (s.size : Int) i = some (b && decide (1 ≤ (s.size : Int) ∧ (s.size : Int) ≤ 12)) := by
  induction d with
  | zero =>
    intro k i h0 h1 hd hk
    obtain ⟨k, rfl⟩ : ∃ m, k = m + 1 := ⟨k - 1, by omega⟩
    refine ⟨true, ?_, ?_⟩
    · simp only [spec_NameOk.l0]; rw [if_neg (by omega)]
    · simp only [impl_NameOk.l0]; rw [if_neg (by omega), in_some']; simp
  | succ d ih =>
    intro k i h0 h1 hd hk
    obtain ⟨k, rfl⟩ : ∃ m, k = m + 1 := ⟨k - 1, by omega⟩
    have hlt : i < (s.size : Int) := by omega
    obtain ⟨b, hb, hb'⟩ := ih k (i + 1) (by omega) (by omega) (by omega) (by omega)
    simp only [spec_NameOk.l0, impl_NameOk.l0]
    rw [if_pos hlt, if_pos h0, if_pos hlt, if_pos h0, if_pos hlt, wi (i + 1) (by omega) (by omega), hb, hb']
    by_cases c1 : bt s i < 97 <;> by_cases c2 : bt s i < 48 <;> by_cases c3 : bt s i > 57 <;> by_cases c4 : bt s i > 122 <;> simp [c1, c2, c3, c4]
end FnExactNameOkP
open FnExactNameOkP
theorem FnExactNameOk : laws_FnExactNameOk.Pure := by
  intro s _
  refine ⟨s.size + 1, ?_⟩
  unfold laws_FnExactNameOk.f
  by_cases h : (s.size : Int) > 1048576
  · rw [if_pos h]
  · rw [if_neg h]
    obtain ⟨b, h1, h2⟩ := loops s (by omega) s.size (s.size + 1) 0 (by omega) (by omega) (by omega) (by omega)
    unfold spec_NameOk.f impl_NameOk.f
    rw [in_some, h2]
    by_cases c : 1 ≤ (s.size : Int) ∧ (s.size : Int) ≤ 12
    · simp [c, h1]
    · simp [c]
end Go.Proofs.Ytfekocllfmajkaa.Pure
