/-
The reference's SortSamples sorts; what the law's helpers on lists of samples answer.
Conditions: the texts of a sample have at most 2^20 bytes where a theorem says so.
-/
import Derived.Lib.Strings
import Derived.Test.YtebmlghhgccloaaKQSx0
import Derived.Test.YtebmlghhgccloaaKQSx1
import Derived.Test.YtebmlghhgccloaaKQSx2
import Derived.Test.YtebmlghhgccloaaKQSx6
import Derived.Test.YtebmlghhgccloaaKQSx7
namespace Go.Proofs.Ytebmlghhgccloaa.SortRef
open Go Go.RowKit Go.Proofs.Ytebmlghhgccloaa.QS Go.Proofs.YtebmlghhgccloaaW.PrintWords Go.Proofs.YtebmlghhgccloaaW.PrintLast Go.Proofs.YtebmlghhgccloaaW.PrintMore
theorem wi (x : Int) (h1 : -9223372036854775808 ≤ x) (h2 : x ≤ 9223372036854775807) : wrap64 x = x := by unfold wrap64; omega
def B (l : List UInt8) : ByteArray := ⟨l.toArray⟩
theorem B_size (l : List UInt8) : (B l).size = l.length := by simp [B, ByteArray.size]
theorem B_data (l : List UInt8) : (B l).data.toList = l := by simp [B]
theorem B_toList (l : List UInt8) : (B l).toList = l := by rw [Lib.toList_data, B_data]
theorem B_of (s : ByteArray) : s = B s.data.toList := (Lib.mk_data s).symm
theorem B_app (l m : List UInt8) : B l ++ B m = B (l ++ m) := by
  refine (Lib.mk_data _).symm.trans ?_
  rw [ByteArray.data_append, Array.toList_append, B_data, B_data]
  rfl
theorem B_ext (l : List UInt8) (i j : Nat) : (B l).extract i j = B ((l.drop i).take (j - i)) := by
  rw [Lib.extract_eq, B_data]
  rfl
theorem B_bt (l : List UInt8) (i : Nat) (c : UInt8) (h : l[i]? = some c) : bt (B l) (i : Int) = (c.toNat : Int) := by
  obtain ⟨hi, hc⟩ := List.getElem?_eq_some_iff.1 h
  unfold bt
  rw [dif_pos (by rw [B_size]; omega)]
  have : (B l)[(i : Int).toNat]'(by rw [B_size]; omega) = l[i] := by simp [B, ByteArray.getElem_eq_getElem_data]
  rw [this, hc]
theorem B_nums (l : List Int) : strOfNums l = B (l.map fun n => UInt8.ofNat n.toNat) := rfl
theorem B_inj {l m : List UInt8} (h : B l = B m) : l = m := by
  have := congrArg (fun s : ByteArray => s.data.toList) h
  simpa [B_data] using this
theorem drop_rd33 (xs : List S58) (i : Int) (h0 : 0 ≤ i) (h : i < (xs.length : Int)) : xs.drop i.toNat = rd_T58 xs i :: xs.drop (i + 1).toNat := by
  have hl : i.toNat < xs.length := by omega
  rw [show (i + 1).toNat = i.toNat + 1 from by omega, List.drop_eq_getElem_cons hl]
  simp [rd_T58, List.getD_eq_getElem?_getD, List.getElem?_eq_getElem hl]
theorem drop_rd36 (xs : List S60) (i : Int) (h0 : 0 ≤ i) (h : i < (xs.length : Int)) : xs.drop i.toNat = rd_T60 xs i :: xs.drop (i + 1).toNat := by
  have hl : i.toNat < xs.length := by omega
  rw [show (i + 1).toNat = i.toNat + 1 from by omega, List.drop_eq_getElem_cons hl]
  simp [rd_T60, List.getD_eq_getElem?_getD, List.getElem?_eq_getElem hl]
theorem mem_rd33 (xs : List S58) (i : Int) (h0 : 0 ≤ i) (h : i < (xs.length : Int)) : rd_T58 xs i ∈ xs := by
  have hl : i.toNat < xs.length := by omega
  have : rd_T58 xs i = xs[i.toNat] := by simp [rd_T58, List.getD_eq_getElem?_getD, List.getElem?_eq_getElem hl]
  rw [this]
  exact List.getElem_mem hl
theorem drop_end_ {α : Type} (xs : List α) (i : Int) (h : (xs.length : Int) ≤ i) : xs.drop i.toNat = [] := List.drop_eq_nil_of_le (by omega)
/-- Each string of a list of samples has a size of the model. -/
def Fit (xs : List S58) : Prop := ∀ x ∈ xs, x.f0.size ≤ 140737488351232 ∧ x.f1.size ≤ 140737488351232
def conv (x : S58) : S60 := ⟨x.f0, x.f1, x.f2, x.f3⟩
theorem szSample_some (x : S58) (n : Int) (h0 : 0 ≤ n) (hn : n ≤ 1048576) (hx : x.f0.size ≤ 140737488351232 ∧ x.f1.size ≤ 140737488351232) : ∃ r, laws_szSample.f x.f0 x.f1 x.f2 x.f3 n = some r ∧ r ≤ n ∧ (0 ≤ r → (x.f0.size : Int) + x.f1.size + r = n) := by
  unfold laws_szSample.f
  rw [wi (n - (x.f0.size : Int)) (by omega) (by omega), wi (n - (x.f0.size : Int) - (x.f1.size : Int)) (by omega) (by omega)]
  by_cases h1 : n - (x.f0.size : Int) < 0
  · rw [if_pos h1]; exact ⟨_, rfl, by omega, by omega⟩
  · rw [if_neg h1]
    by_cases h2 : n - (x.f0.size : Int) - (x.f1.size : Int) < 0
    · rw [if_pos h2]; exact ⟨_, rfl, by omega, by omega⟩
    · rw [if_neg h2]; exact ⟨_, rfl, by omega, by omega⟩
/-- Each string of a list of samples is short. -/
def Short (xs : List S58) : Prop := ∀ x ∈ xs, x.f0.size ≤ 1048576 ∧ x.f1.size ≤ 1048576
theorem szSampleS_l0 (xs : List S58) (hf : Fit xs) (hm : xs.length ≤ 1048576) (d : Nat) : ∀ (k : Nat) (n i : Int), 0 ≤ i → i ≤ xs.length → (xs.length : Int) - i = d → d < k → 0 ≤ n → n ≤ 1048576 →
    ∃ r, laws_szSampleS.l0 k xs n i = some r ∧ (0 ≤ r → Short (xs.drop i.toNat)) := by
  induction d with
  | zero =>
    intro k n i h0 h1 hd hk _ _
    obtain ⟨k, rfl⟩ : ∃ m, k = m + 1 := ⟨k - 1, by omega⟩
    simp only [laws_szSampleS.l0]; rw [if_neg (by omega)]
    exact ⟨_, rfl, fun _ x hx => by rw [drop_end_ xs i (by omega)] at hx; cases hx⟩
  | succ d ih =>
    intro k n i h0 h1 hd hk hn hn'
    obtain ⟨k, rfl⟩ : ∃ m, k = m + 1 := ⟨k - 1, by omega⟩
    have hlt : i < (xs.length : Int) := by omega
    obtain ⟨r, hr, hle, hsum⟩ := szSample_some (rd_T58 xs i) n hn hn' (hf _ (mem_rd33 xs i h0 hlt))
    simp only [laws_szSampleS.l0]; rw [if_pos hlt, if_pos h0, hr]
    simp only [Option.bind_some]
    by_cases hneg : r < 0
    · rw [if_pos hneg]; exact ⟨_, rfl, fun h => by omega⟩
    · rw [if_neg hneg, wi (i + 1) (by omega) (by omega)]
      obtain ⟨q, hq, hs⟩ := ih k r (i + 1) (by omega) (by omega) (by omega) (by omega) (by omega) (by omega)
      refine ⟨q, hq, fun h x hx => ?_⟩
      rw [drop_rd33 xs i h0 hlt] at hx
      rcases List.mem_cons.1 hx with rfl | hx
      · have := hsum (by omega); omega
      · exact hs h x hx
/-- The law's own measure of a list: below 0, or the list and its strings are short. -/
theorem szSampleS_some (xs : List S58) (hf : Fit xs) (hl : xs.length ≤ 9223372036854775807) (k : Nat) (hk : xs.length < k ∨ 1048576 < k) : ∃ r, laws_szSampleS.f k xs 1048576 = some r ∧ (r < 0 ∨ xs.length ≤ 1048576 ∧ Short xs) := by
  unfold laws_szSampleS.f
  rw [wi (1048576 - (xs.length : Int)) (by omega) (by omega)]
  by_cases h : (1048576 : Int) - (xs.length : Int) < 0
  · rw [if_pos h]; exact ⟨_, rfl, .inl (by omega)⟩
  · rw [if_neg h]
    obtain ⟨r, hr, hs⟩ := szSampleS_l0 xs hf (by omega) xs.length k (1048576 - (xs.length : Int)) 0 (by omega) (by omega) (by omega) (by omega) (by omega) (by omega)
    refine ⟨r, hr, ?_⟩
    by_cases hneg : r < 0
    · exact .inl hneg
    · exact .inr ⟨by omega, by simpa using hs (by omega)⟩
theorem toSampleS_l0 (xs : List S58) (hm : xs.length ≤ 1048576) (d : Nat) : ∀ (k : Nat) (o : List S60) (i : Int), 0 ≤ i → i ≤ xs.length → (xs.length : Int) - i = d → d < k → o.length = xs.length →
    laws_toSampleS.l0 k xs o i = some (o.take i.toNat ++ (xs.drop i.toNat).map conv) := by
  induction d with
  | zero =>
    intro k o i h0 h1 hd hk ho
    obtain ⟨k, rfl⟩ : ∃ m, k = m + 1 := ⟨k - 1, by omega⟩
    simp only [laws_toSampleS.l0]; rw [if_neg (by omega), drop_end_ xs i (by omega), List.take_of_length_le (by omega)]; simp
  | succ d ih =>
    intro k o i h0 h1 hd hk ho
    obtain ⟨k, rfl⟩ : ∃ m, k = m + 1 := ⟨k - 1, by omega⟩
    have hlt : i < (xs.length : Int) := by omega
    have hl : i.toNat < o.length := by omega
    simp only [laws_toSampleS.l0, laws_toSample.f, Option.bind_some]; rw [if_pos hlt, if_pos h0, if_pos (by omega), wi (i + 1) (by omega) (by omega), ih k _ (i + 1) (by omega) (by omega) (by omega) (by omega) (by simpa using ho), drop_rd33 xs i h0 hlt]
    rw [show (i + 1).toNat = i.toNat + 1 from by omega, List.take_succ_eq_append_getElem (by simpa using hl), List.take_set_of_le (Nat.le_refl _)]
    simp [conv]
theorem toSampleS_same (xs : List S58) (hm : xs.length ≤ 1048576) (k : Nat) (hk : xs.length < k) : laws_toSampleS.f k xs = some (xs.map conv) := by
  unfold laws_toSampleS.f
  rw [if_pos (by omega), if_pos (by omega), toSampleS_l0 xs hm xs.length k _ 0 (by omega) (by omega) (by omega) (by omega) (by simp)]
  simp
theorem eqSampleS_l0 (xs : List S60) (hm : xs.length ≤ 1048576) (d : Nat) : ∀ (k : Nat) (i : Int), 0 ≤ i → i ≤ xs.length → (xs.length : Int) - i = d → d < k →
    laws_eqSampleS.l0 k xs xs i = some true := by
  induction d with
  | zero =>
    intro k i h0 h1 hd hk
    obtain ⟨k, rfl⟩ : ∃ m, k = m + 1 := ⟨k - 1, by omega⟩
    simp only [laws_eqSampleS.l0]; rw [if_neg (by omega)]
  | succ d ih =>
    intro k i h0 h1 hd hk
    obtain ⟨k, rfl⟩ : ∃ m, k = m + 1 := ⟨k - 1, by omega⟩
    have hlt : i < (xs.length : Int) := by omega
    simp only [laws_eqSampleS.l0, laws_eqSample.f, if_true, Option.bind_some]; rw [if_pos hlt, if_pos h0, if_pos hlt, wi (i + 1) (by omega) (by omega)]
    exact ih k (i + 1) (by omega) (by omega) (by omega) (by omega)
theorem eqSampleS_same (xs : List S60) (hm : xs.length ≤ 1048576) (k : Nat) (hk : xs.length < k) : laws_eqSampleS.f k xs xs = some true := by
  unfold laws_eqSampleS.f
  rw [if_pos rfl]
  exact eqSampleS_l0 xs hm xs.length k 0 (by omega) (by omega) (by omega) (by omega)
/-! The marks that the law lays and asks for again. -/
theorem mark_l0 : ∀ (d : Nat) (x : Int) (acc : ByteArray) (k : Nat), x.natAbs < 10 ^ d → d < k → x ≤ 9223372036854775807 → -9223372036854775808 ≤ x → acc.size + d ≤ 1000 → ∃ r, laws_markText.l0 k x acc = some r
  | 0, x, acc, k, hx, hk, _, _, ha => by
    obtain ⟨k, rfl⟩ : ∃ m, k = m + 1 := ⟨k - 1, by omega⟩
    obtain rfl : x = 0 := by simp at hx; omega
    rw [laws_markText.l0, if_neg (by omega), if_pos (by omega)]
    exact ⟨_, rfl⟩
  | d + 1, x, acc, k, hx, hk, h1, h2, ha => by
    obtain ⟨k, rfl⟩ : ∃ m, k = m + 1 := ⟨k - 1, by omega⟩
    rw [laws_markText.l0]
    by_cases h : x > 0
    · have hq : (Int.tdiv x 10).natAbs = x.natAbs / 10 := Int.natAbs_tdiv x 10
      have hlt : x.natAbs / 10 < 10 ^ d := by
        rw [Nat.pow_succ] at hx
        omega
      have hs : ∀ n : Int, (strOfNums [n]).size = 1 := fun n => rfl
      rw [if_pos h, Option.bind_some, hs, if_pos (by omega), wi (Int.tdiv x 10) (by omega) (by omega)]
      exact mark_l0 d _ _ k (by omega) (by omega) (by omega) (by omega) (by rw [ByteArray.size_append, hs]; omega)
    · rw [if_neg h, if_pos (by omega)]
      exact ⟨_, rfl⟩
theorem mark_total (n : Int) (h0 : 0 ≤ n) (h1 : n ≤ 1000000000) : ∃ r, laws_markText.f 40 n = some r := by
  unfold laws_markText.f
  by_cases h : n ≤ 0
  · rw [if_pos h]; exact ⟨_, rfl⟩
  · rw [if_neg h]
    exact mark_l0 19 n _ 40 (by have : (10 : Nat) ^ 19 = 10000000000000000000 := by decide
                                omega) (by omega) (by omega) (by omega) (by decide)
/-- A mark's text. -/
def mt (n : Int) : ByteArray := (laws_markText.f 40 n).getD ⟨#[]⟩
theorem mark_some (n : Int) (h0 : 0 ≤ n) (h1 : n ≤ 1000000000) (k : Nat) (hk : 40 ≤ k) : laws_markText.f k n = some (mt n) := by
  obtain ⟨r, hr⟩ := mark_total n h0 h1
  have e : mt n = r := by unfold mt; rw [hr]; rfl
  rw [e]
  induction k with
  | zero => omega
  | succ k ih =>
    rcases Nat.lt_or_ge 40 (k + 1) with h | h
    · exact laws_markText.mono n k r (ih (by omega))
    · obtain rfl : k = 39 := by omega
      exact hr
def mks : Int → List S60 → List S60
  | _, [] => []
  | q, _ :: r => ⟨mt q, mt (q + 1), q + 2, q + 3⟩ :: mks (q + 4) r
def mki : Int → List Int → List Int
  | _, [] => []
  | q, _ :: r => q :: mki (q + 1) r
theorem rd_mid (pre r : List S60) (x : S60) : rd_T60 (pre ++ x :: r) (pre.length : Int) = x := by
  unfold rd_T60
  rw [show ((pre.length : Int)).toNat = pre.length from by omega]
  simp [List.getD_eq_getElem?_getD]
theorem set_mid {α : Type} (pre r : List α) (x y : α) : (pre ++ x :: r).set (pre.length : Int).toNat y = pre ++ y :: r := by
  rw [show ((pre.length : Int)).toNat = pre.length from by omega]
  simp
theorem rdi_mid (pre r : List Int) (x : Int) : rd (pre ++ x :: r) (pre.length : Int) = x := by
  unfold rd
  rw [show ((pre.length : Int)).toNat = pre.length from by omega]
  simp [List.getD_eq_getElem?_getD]
theorem marks_l0 : ∀ (r pre : List S60) (q : Int) (k : Nat), 0 ≤ q → q + 4 * r.length ≤ 100000000 → pre.length + r.length ≤ 100000000 → r.length + 41 ≤ k →
    laws_markSampleS.l0 k (pre ++ r) q (pre.length : Int) = some (q + 4 * (r.length : Int), pre ++ mks q r)
  | [], pre, q, k, h0, h1, h2, hk => by
    obtain ⟨k, rfl⟩ : ∃ m, k = m + 1 := ⟨k - 1, by omega⟩
    rw [laws_markSampleS.l0, if_neg (by simp)]
    simp [mks]
  | x :: r, pre, q, k, h0, h1, h2, hk => by
    obtain ⟨k, rfl⟩ : ∃ m, k = m + 1 := ⟨k - 1, by omega⟩
    rw [List.length_cons] at h1 h2 hk
    rw [laws_markSampleS.l0, if_pos (by rw [List.length_append, List.length_cons]; omega), mark_some q h0 (by omega) k (by omega)]
    simp only [Option.bind_some]
    rw [if_pos (by omega), wi (q + 1) (by omega) (by omega), wi (q + 1 + 1) (by omega) (by omega), wi (q + 1 + 1 + 1) (by omega) (by omega), wi (q + 1 + 1 + 1 + 1) (by omega) (by omega), mark_some (q + 1) (by omega) (by omega) k (by omega)]
    simp only [Option.bind_some, set_mid, rd_mid]
    rw [wi ((pre.length : Int) + 1) (by omega) (by omega)]
    have ih := marks_l0 r (pre ++ [⟨mt q, mt (q + 1), q + 1 + 1, q + 1 + 1 + 1⟩]) (q + 1 + 1 + 1 + 1) k (by omega) (by omega) (by rw [List.length_append, List.length_singleton]; omega) (by omega)
    rw [List.length_append, List.length_singleton, List.append_assoc, List.singleton_append] at ih
    rw [show ((pre.length : Int) + 1) = ((pre.length + 1 : Nat) : Int) from by omega, ih, mks, List.length_cons]
    rw [show q + 1 + 1 + 1 + 1 = q + 4 from by omega, show q + 1 + 1 + 1 = q + 3 from by omega, show q + 1 + 1 = q + 2 from by omega]
    simp only [List.append_assoc, List.singleton_append, Option.some.injEq, Prod.mk.injEq, and_true]
    omega
theorem marks_f (xs : List S60) (h : xs.length ≤ 2000000) (k : Nat) (hk : xs.length + 100 ≤ k) : laws_markSampleS.f k xs 1 = some (1 + 4 * (xs.length : Int), mks 1 xs) := by
  unfold laws_markSampleS.f
  exact marks_l0 xs [] 1 k (by omega) (by omega) (by simp; omega) (by omega)
theorem held_l0 : ∀ (r pre : List S60) (q : Int) (k : Nat), 0 ≤ q → q + 4 * r.length ≤ 100000000 → pre.length + r.length ≤ 100000000 → r.length + 41 ≤ k →
    laws_heldSampleS.l0 k (pre ++ mks q r) q (pre.length : Int) = some (q + 4 * (r.length : Int))
  | [], pre, q, k, h0, h1, h2, hk => by
    obtain ⟨k, rfl⟩ : ∃ m, k = m + 1 := ⟨k - 1, by omega⟩
    rw [mks, List.append_nil, laws_heldSampleS.l0, if_neg (by omega)]
    simp
  | x :: r, pre, q, k, h0, h1, h2, hk => by
    obtain ⟨k, rfl⟩ : ∃ m, k = m + 1 := ⟨k - 1, by omega⟩
    rw [List.length_cons] at h1 h2 hk
    rw [mks, laws_heldSampleS.l0, if_pos (by rw [List.length_append, List.length_cons]; omega), if_pos (by omega), mark_some q h0 (by omega) k (by omega)]
    simp only [Option.bind_some, rd_mid]
    rw [if_pos trivial, wi (q + 1) (by omega) (by omega), mark_some (q + 1) (by omega) (by omega) k (by omega)]
    simp only [Option.bind_some]
    rw [if_pos trivial, wi (q + 1 + 1) (by omega) (by omega), wi (q + 1 + 1 + 1) (by omega) (by omega), wi (q + 1 + 1 + 1 + 1) (by omega) (by omega), if_pos (by omega), if_pos (by omega)]
    rw [wi ((pre.length : Int) + 1) (by omega) (by omega)]
    have ih := held_l0 r (pre ++ [⟨mt q, mt (q + 1), q + 2, q + 3⟩]) (q + 4) k (by omega) (by omega) (by rw [List.length_append, List.length_singleton]; omega) (by omega)
    rw [List.length_append, List.length_singleton, List.append_assoc, List.singleton_append] at ih
    rw [show ((pre.length : Int) + 1) = ((pre.length + 1 : Nat) : Int) from by omega, show q + 1 + 1 + 1 + 1 = q + 4 from by omega, ih, List.length_cons]
    congr 1
    omega
theorem held_f (xs : List S60) (h : xs.length ≤ 2000000) (k : Nat) (hk : xs.length + 100 ≤ k) : laws_heldSampleS.f k (mks 1 xs) 1 = some (1 + 4 * (xs.length : Int)) := by
  unfold laws_heldSampleS.f
  exact held_l0 xs [] 1 k (by omega) (by omega) (by simp; omega) (by omega)
/-! The order of texts. -/
theorem lt_cons (a b : UInt8) (x y : List UInt8) : (a :: x < b :: y) ↔ (a < b ∨ (a = b ∧ x < y)) := List.cons_lt_cons_iff
/-- Is a text from a place on less than another one? -/
def LessAt (a b : List UInt8) (i : Nat) : Prop := if a.drop i = [] ∨ b.drop i = [] then a.length < b.length else a.drop i < b.drop i
theorem less_l0 (a b : List UInt8) (ha : a.length ≤ 1048576) (hb : b.length ≤ 1048576) : ∀ (d i k : Nat), i + d = a.length → i ≤ b.length → 2 * d + 2 ≤ k → ∃ r : Bool, spec_l02Less.l0 k (B a) (B b) (i : Int) = some r ∧ (r = true ↔ LessAt a b i)
  | 0, i, k, hi, hib, hk => by
    obtain ⟨k, rfl⟩ : ∃ m, k = m + 2 := ⟨k - 2, by omega⟩
    have e0 : a.drop i = [] := List.drop_eq_nil_of_le (by omega)
    rw [spec_l02Less.l0, B_size, if_neg (by omega), spec_l02Less.j1, if_neg (by simp), B_size, B_size]
    refine ⟨_, rfl, ?_⟩
    unfold LessAt
    rw [if_pos (.inl e0), decide_eq_true_iff]
    omega
  | d + 1, i, k, hi, hib, hk => by
    obtain ⟨k, rfl⟩ : ∃ m, k = m + 2 := ⟨k - 2, by omega⟩
    rw [spec_l02Less.l0, B_size, B_size, if_pos (by omega), spec_l02Less.j1]
    by_cases hlt : i < b.length
    · obtain ⟨x, hx⟩ : ∃ x, a[i]? = some x := ⟨a[i]'(by omega), List.getElem?_eq_getElem (by omega)⟩
      obtain ⟨y, hy⟩ : ∃ y, b[i]? = some y := ⟨b[i]'hlt, List.getElem?_eq_getElem hlt⟩
      have dx : a.drop i = x :: a.drop (i + 1) := by
        obtain ⟨h1, h2⟩ := List.getElem?_eq_some_iff.1 hx
        rw [← h2]; exact List.drop_eq_getElem_cons h1
      have dy : b.drop i = y :: b.drop (i + 1) := by
        obtain ⟨h1, h2⟩ := List.getElem?_eq_some_iff.1 hy
        rw [← h2]; exact List.drop_eq_getElem_cons h1
      have hat : LessAt a b i ↔ (x < y ∨ (x = y ∧ a.drop (i + 1) < b.drop (i + 1))) := by
        unfold LessAt
        rw [if_neg (by rw [dx, dy]; simp), dx, dy, lt_cons]
      rw [decide_eq_true (by omega), if_pos rfl, if_pos (by omega), B_size, B_size, if_pos (by omega), if_pos (by omega), B_bt a i x hx, B_bt b i y hy]
      by_cases hxy : (x.toNat : Int) = (y.toNat : Int)
      · obtain rfl : x = y := UInt8.toNat_inj.1 (by omega)
        rw [if_pos rfl, wi ((i : Int) + 1) (by omega) (by omega), show ((i : Int) + 1) = ((i + 1 : Nat) : Int) from by omega]
        obtain ⟨r, h1, h2⟩ := less_l0 a b ha hb d (i + 1) k (by omega) (by omega) (by omega)
        refine ⟨r, h1, h2.trans ?_⟩
        rw [hat]
        have hirr : ¬ x < x := UInt8.lt_irrefl x
        have hla : (a.drop (i + 1)).length = a.length - (i + 1) := List.length_drop
        have hlb : (b.drop (i + 1)).length = b.length - (i + 1) := List.length_drop
        unfold LessAt
        by_cases h0 : a.drop (i + 1) = [] ∨ b.drop (i + 1) = []
        · rw [if_pos h0]
          rcases h0 with h0 | h0
          · rw [h0] at hla ⊢
            rw [List.length_nil] at hla
            cases hq : b.drop (i + 1) with
            | nil =>
              rw [hq, List.length_nil] at hlb
              constructor
              · omega
              · rintro (h | ⟨_, h⟩)
                · exact absurd h hirr
                · exact absurd h (List.lt_irrefl [])
            | cons z zs =>
              rw [hq, List.length_cons] at hlb
              constructor
              · intro _; exact .inr ⟨rfl, List.nil_lt_cons z zs⟩
              · intro _; omega
          · rw [h0] at hlb ⊢
            rw [List.length_nil] at hlb
            constructor
            · omega
            · rintro (h | ⟨_, h⟩)
              · exact absurd h hirr
              · exact absurd h (List.not_lt_nil _)
        · rw [if_neg h0]
          constructor
          · intro h; exact .inr ⟨rfl, h⟩
          · rintro (h | ⟨_, h⟩)
            · exact absurd h hirr
            · exact h
      · rw [if_neg hxy]
        refine ⟨_, rfl, ?_⟩
        rw [hat, decide_eq_true_iff]
        have hne : x ≠ y := fun e => hxy (by rw [e])
        have hlt' : x < y ↔ x.toNat < y.toNat := UInt8.lt_iff_toNat_lt
        constructor
        · intro h; exact .inl (hlt'.2 (by omega))
        · rintro (h | ⟨h, _⟩)
          · have := hlt'.1 h; omega
          · exact absurd h hne
    · rw [decide_eq_false (by omega), if_neg (by simp), B_size, B_size]
      have e0 : b.drop i = [] := List.drop_eq_nil_of_le (by omega)
      refine ⟨_, rfl, ?_⟩
      unfold LessAt
      rw [if_pos (.inr e0), decide_eq_true_iff]
      omega
theorem less_some (a b : List UInt8) (ha : a.length ≤ 1048576) (hb : b.length ≤ 1048576) (k : Nat) (hk : 2097160 ≤ k) : spec_l02Less.f k (B a) (B b) = some (decide (a < b)) := by
  unfold spec_l02Less.f
  obtain ⟨r, h1, h2⟩ := less_l0 a b ha hb a.length 0 k (by omega) (by omega) (by omega)
  rw [show (((0 : Nat) : Int)) = 0 from rfl] at h1
  rw [h1]
  congr 1
  rw [Bool.eq_iff_iff, h2, decide_eq_true_iff]
  unfold LessAt
  rw [List.drop_zero, List.drop_zero]
  by_cases h : a = [] ∨ b = []
  · rw [if_pos h]
    rcases h with rfl | rfl
    · cases b with
      | nil => exact ⟨fun h => by simp at h, fun h => absurd h (List.lt_irrefl [])⟩
      | cons z zs => exact ⟨fun _ => List.nil_lt_cons z zs, fun _ => by simp⟩
    · exact ⟨fun h => by simp at h, fun h => absurd h (List.not_lt_nil _)⟩
  · rw [if_neg h]
/-- Is one sample ahead of another? -/
def aheadB (x y : S60) : Bool :=
  if x.f0.data.toList = y.f0.data.toList then (if x.f1.data.toList = y.f1.data.toList then decide (x.f3 < y.f3) else decide (x.f1.data.toList < y.f1.data.toList)) else decide (x.f0.data.toList < y.f0.data.toList)
def Shrt (x : S60) : Prop := x.f0.size ≤ 1048576 ∧ x.f1.size ≤ 1048576
theorem ahead_some (x y : S60) (hx : Shrt x) (hy : Shrt y) (k : Nat) (hk : 2097160 ≤ k) : spec_l02Ahead.f k x.f0 x.f1 x.f2 x.f3 y.f0 y.f1 y.f2 y.f3 = some (aheadB x y) := by
  obtain ⟨x0, x1, x2, x3⟩ := x
  obtain ⟨y0, y1, y2, y3⟩ := y
  unfold spec_l02Ahead.f aheadB
  simp only [Lib.toList_data]
  have h00 := hx.1; have h01 := hx.2; have h10 := hy.1; have h11 := hy.2
  simp only [Lib.size_eq] at h00 h01 h10 h11
  have e0 := less_some x0.data.toList y0.data.toList h00 h10 k hk
  have e1 := less_some x1.data.toList y1.data.toList h01 h11 k hk
  rw [← B_of x0, ← B_of y0] at e0
  rw [← B_of x1, ← B_of y1] at e1
  rw [e0, e1]
  by_cases a : x0.data.toList = y0.data.toList
  · rw [if_pos a, if_pos a]
    by_cases b : x1.data.toList = y1.data.toList
    · rw [if_pos b, if_pos b]
    · rw [if_neg b, if_neg b]; rfl
  · rw [if_neg a, if_neg a]; rfl
/-! The reference's sort: each sample goes before the first that it is ahead of. -/
def ins (x : S60) : List S60 → List S60
  | [] => [x]
  | y :: r => if aheadB x y = true then x :: y :: r else y :: ins x r
theorem ins_perm (x : S60) : ∀ l, (ins x l).Perm (x :: l)
  | [] => List.Perm.refl _
  | y :: r => by
    rw [ins]
    split
    · exact List.Perm.refl _
    · exact ((ins_perm x r).cons y).trans (List.Perm.swap x y r)
theorem ins_length (x : S60) (l : List S60) : (ins x l).length = l.length + 1 := (ins_perm x l).length_eq
def isort (l o : List S60) : List S60 := l.foldl (fun o x => ins x o) o
theorem isort_perm : ∀ (l o : List S60), (isort l o).Perm (l ++ o)
  | [], o => List.Perm.refl _
  | x :: r, o => by
    show (isort r (ins x o)).Perm (x :: (r ++ o))
    refine (isort_perm r (ins x o)).trans ?_
    refine ((ins_perm x o).append_left r).trans ?_
    exact List.perm_middle
theorem drop_rdS (xs : List S60) (i : Nat) (h : i < xs.length) : xs.drop i = rd_T60 xs (i : Int) :: xs.drop (i + 1) := by
  rw [List.drop_eq_getElem_cons h]
  simp [rd_T60, List.getD_eq_getElem?_getD, List.getElem?_eq_getElem h]
theorem mem_rdS (xs : List S60) (i : Nat) (h : i < xs.length) : rd_T60 xs (i : Int) ∈ xs := by
  have : rd_T60 xs (i : Int) = xs[i] := by simp [rd_T60, List.getD_eq_getElem?_getD, List.getElem?_eq_getElem h]
  rw [this]
  exact List.getElem_mem h
theorem sort_l1 (l out : List S60) (hl : l.length ≤ 300) (ho : out.length ≤ 300) (hsl : ∀ x ∈ l, Shrt x) (hso : ∀ x ∈ out, Shrt x) (i : Nat) (hi : i < l.length) : ∀ (d j : Nat) (next : List S60) (put : Bool) (m : Nat), j + d = out.length → next.length ≤ 2 * j + 1 → 2097160 ≤ m →
    spec_SortSamples.l1 (m + d + 1) l out (i : Int) next put (j : Int) = spec_SortSamples.l0 m l (next ++ (if put = true then out.drop j else ins (rd_T60 l (i : Int)) (out.drop j))) (wrap64 ((i : Int) + 1))
  | 0, j, next, put, m, hj, hn, hm => by
    have e0 : out.drop j = [] := List.drop_eq_nil_of_le (by omega)
    rw [Nat.add_zero, spec_SortSamples.l1, if_neg (by omega), e0]
    cases put
    · rw [if_neg (by simp), if_pos (by omega), if_pos (by omega), if_pos (by omega), if_neg (by simp)]
      rfl
    · rw [if_pos rfl, if_pos rfl, List.append_nil]
  | d + 1, j, next, put, m, hj, hn, hm => by
    have hw : wrap64 ((j : Int) + 1) = ((j + 1 : Nat) : Int) := by rw [wi _ (by omega) (by omega)]; omega
    have hd := drop_rdS out j (by omega)
    rw [show m + (d + 1) + 1 = (m + d + 1) + 1 from by omega, spec_SortSamples.l1, if_pos (by omega), hw]
    have hy := hso _ (mem_rdS out j (by omega))
    have hx := hsl _ (mem_rdS l i hi)
    cases put
    · rw [if_neg (by simp), if_pos (by omega), if_pos (by omega), if_pos (by omega), ahead_some _ _ hx hy (m + d + 1) (by omega)]
      simp only [Option.bind_some]
      by_cases ha : aheadB (rd_T60 l (i : Int)) (rd_T60 out (j : Int)) = true
      · rw [if_pos ha, if_pos (by omega), if_pos (by rw [List.length_append, List.length_singleton]; omega)]
        have ih := sort_l1 l out hl ho hsl hso i hi d (j + 1) ((next ++ [rd_T60 l (i : Int)]) ++ [rd_T60 out (j : Int)]) true m (by omega) (by simp only [List.length_append, List.length_singleton]; omega) hm
        refine Eq.trans ih ?_
        rw [if_pos rfl, if_neg (by simp), hd, ins, if_pos ha]
        simp
      · rw [if_neg ha, if_pos (by omega)]
        have ih := sort_l1 l out hl ho hsl hso i hi d (j + 1) (next ++ [rd_T60 out (j : Int)]) false m (by omega) (by simp only [List.length_append, List.length_singleton]; omega) hm
        refine Eq.trans ih ?_
        rw [if_neg (by simp), if_neg (by simp), hd, ins, if_neg ha]
        simp
    · rw [if_pos rfl, if_pos (by omega), if_pos (by omega)]
      have ih := sort_l1 l out hl ho hsl hso i hi d (j + 1) (next ++ [rd_T60 out (j : Int)]) true m (by omega) (by simp only [List.length_append, List.length_singleton]; omega) hm
      refine Eq.trans ih ?_
      rw [if_pos rfl, if_pos rfl, hd]
      simp
theorem sort_l0 (l : List S60) (hl : l.length ≤ 300) (hsl : ∀ x ∈ l, Shrt x) (K : Nat) (hK : 2097160 ≤ K) : ∀ (d i : Nat) (out : List S60) (k : Nat), i + d = l.length → out.length = i → (∀ x ∈ out, Shrt x) → K ≤ k - 303 * (d + 1) →
    spec_SortSamples.l0 k l out (i : Int) = some (isort (l.drop i) out) := by
  intro d
  induction d with
  | zero =>
    intro i out k hi ho hso hk
    obtain ⟨k, rfl⟩ : ∃ m, k = m + 1 := ⟨k - 1, by omega⟩
    have e0 : l.drop i = [] := List.drop_eq_nil_of_le (by omega)
    rw [spec_SortSamples.l0, if_neg (by omega), e0]
    rfl
  | succ d ih =>
    intro i out k hi ho hso hk
    obtain ⟨m, rfl⟩ : ∃ m, k = (m + out.length + 1) + 1 := ⟨k - out.length - 2, by omega⟩
    have hw : wrap64 ((i : Int) + 1) = ((i + 1 : Nat) : Int) := by rw [wi _ (by omega) (by omega)]; omega
    have h1 := sort_l1 l out hl (by omega) hsl hso i (by omega) out.length 0 [] false m (by omega) (by simp) (by omega)
    rw [show (((0 : Nat) : Int)) = 0 from rfl] at h1
    rw [spec_SortSamples.l0, if_pos (by omega), h1, if_neg (by simp), List.nil_append, List.drop_zero, hw]
    have hin : ∀ x ∈ ins (rd_T60 l (i : Int)) out, Shrt x := by
      intro x hx
      rcases List.mem_cons.1 ((ins_perm _ out).mem_iff.1 hx) with rfl | hx
      · exact hsl _ (mem_rdS l i (by omega))
      · exact hso x hx
    have hk' : K ≤ m - 303 * (d + 1) := by
      have he : 303 * (d + 1 + 1) = 303 * (d + 1) + 303 := Nat.mul_succ 303 (d + 1)
      rw [he] at hk
      generalize 303 * (d + 1) = e at hk ⊢
      clear hin h1 hw hso hsl ih he
      omega
    have hli : (ins (rd_T60 l (i : Int)) out).length = i + 1 := by rw [ins_length]; omega
    rw [ih (i + 1) _ m (by omega) hli hin hk', drop_rdS l i (by omega)]
    rfl
theorem sort_spec (l : List S60) (hsl : ∀ x ∈ l, Shrt x) (k : Nat) (hk : 2200000 ≤ k) : spec_SortSamples.f k l = some (if (l.length : Int) > 300 then [] else isort l []) := by
  unfold spec_SortSamples.f
  by_cases h : (l.length : Int) > 300
  · rw [if_pos h, if_pos h]
  · rw [if_neg h, if_neg h]
    have := sort_l0 l (by omega) hsl 2097160 (by omega) l.length 0 [] k (by omega) rfl (fun x hx => by cases hx) (by omega)
    rw [show (((0 : Nat) : Int)) = 0 from rfl] at this
    rw [this]
    rfl
end Go.Proofs.Ytebmlghhgccloaa.SortRef
