/-
The program's PrintScrape and the reference's return the same text and flag, for every list of samples; the argument stays as it was.
Conditions: each string of the list has at most 2^47 - 4096 bytes; the list's length fits an int.
-/
import Derived.Test.YtjelbcdloocacaaDoorQAx
import Derived.Test.YtjelbcdloocacaaDoorPureLine
namespace Go.Proofs.YtjelbcdloocacaaDoor.PurePrint
open Go Go.RowKit Go.Proofs.YtjelbcdloocacaaDoor.QA Go.Proofs.YtjelbcdloocacaaDoor.Given Go.Proofs.YtjelbcdloocacaaDoor.PureMilli Go.Proofs.YtjelbcdloocacaaDoor.PureLine Go.Proofs.YtjelbcdloocacaaDoorW.PrintWords Go.Proofs.YtjelbcdloocacaaDoorW.PrintLast Go.Proofs.YtjelbcdloocacaaDoorW.PrintMore
theorem drop_rd33 (xs : List S28) (i : Int) (h0 : 0 ≤ i) (h : i < (xs.length : Int)) : xs.drop i.toNat = rd_T28 xs i :: xs.drop (i + 1).toNat := by
  have hl : i.toNat < xs.length := by omega
  rw [show (i + 1).toNat = i.toNat + 1 from by omega, List.drop_eq_getElem_cons hl]
  simp [rd_T28, List.getD_eq_getElem?_getD, List.getElem?_eq_getElem hl]
theorem drop_rd36 (xs : List S31) (i : Int) (h0 : 0 ≤ i) (h : i < (xs.length : Int)) : xs.drop i.toNat = rd_T31 xs i :: xs.drop (i + 1).toNat := by
  have hl : i.toNat < xs.length := by omega
  rw [show (i + 1).toNat = i.toNat + 1 from by omega, List.drop_eq_getElem_cons hl]
  simp [rd_T31, List.getD_eq_getElem?_getD, List.getElem?_eq_getElem hl]
theorem mem_rd33 (xs : List S28) (i : Int) (h0 : 0 ≤ i) (h : i < (xs.length : Int)) : rd_T28 xs i ∈ xs := by
  have hl : i.toNat < xs.length := by omega
  have : rd_T28 xs i = xs[i.toNat] := by simp [rd_T28, List.getD_eq_getElem?_getD, List.getElem?_eq_getElem hl]
  rw [this]
  exact List.getElem_mem hl
theorem drop_end_ {α : Type} (xs : List α) (i : Int) (h : (xs.length : Int) ≤ i) : xs.drop i.toNat = [] := List.drop_eq_nil_of_le (by omega)
/-- Each string of a list of samples has a size of the model. -/
def Fit (xs : List S28) : Prop := ∀ x ∈ xs, x.f0.size ≤ 140737488351232 ∧ x.f1.size ≤ 140737488351232
def conv (x : S28) : S31 := ⟨x.f0, x.f1, x.f2, x.f3⟩
theorem szSample_some (x : S28) (n : Int) (h0 : 0 ≤ n) (hn : n ≤ 1048576) (hx : x.f0.size ≤ 140737488351232 ∧ x.f1.size ≤ 140737488351232) : ∃ r, laws_szSample.f x.f0 x.f1 x.f2 x.f3 n = some r ∧ r ≤ n ∧ (0 ≤ r → (x.f0.size : Int) + x.f1.size + r = n) := by
  unfold laws_szSample.f
  rw [wi (n - (x.f0.size : Int)) (by omega) (by omega), wi (n - (x.f0.size : Int) - (x.f1.size : Int)) (by omega) (by omega)]
  by_cases h1 : n - (x.f0.size : Int) < 0
  · rw [if_pos h1]; exact ⟨_, rfl, by omega, by omega⟩
  · rw [if_neg h1]
    by_cases h2 : n - (x.f0.size : Int) - (x.f1.size : Int) < 0
    · rw [if_pos h2]; exact ⟨_, rfl, by omega, by omega⟩
    · rw [if_neg h2]; exact ⟨_, rfl, by omega, by omega⟩
/-- Each string of a list of samples is short. -/
def Short (xs : List S28) : Prop := ∀ x ∈ xs, x.f0.size ≤ 1048576 ∧ x.f1.size ≤ 1048576
theorem szSampleS_l0 (xs : List S28) (hf : Fit xs) (hm : xs.length ≤ 1048576) (d : Nat) : ∀ (k : Nat) (n i : Int), 0 ≤ i → i ≤ xs.length → (xs.length : Int) - i = d → d < k → 0 ≤ n → n ≤ 1048576 →
    ∃ r, laws_szSampleS.l0 k xs n i = some r ∧ (0 ≤ r → Short (xs.drop i.toNat)) := by
  induction d with
  | zero =>
    intro k n i h0 h1 hd hk _ _
    obtain ⟨k, rfl⟩ : ∃ m, k = m + 1 := ⟨k - 1, by omega⟩
    simp only [laws_szSampleS.l0]; rw [if_neg (by omega)]
    exact ⟨_, rfl, fun _ x hx => by rw [drop_end_ xs i (by omega)] at hx; cases hx⟩
  | succ d ih =>
    intro k n i h0 h1 hd hk hn hn'
    obtain ⟨k, rfl⟩ : ∃ m, k = m + 1 := ⟨k - 1, by omega⟩
    have hlt : i < (xs.length : Int) := by omega
    obtain ⟨r, hr, hle, hsum⟩ := szSample_some (rd_T28 xs i) n hn hn' (hf _ (mem_rd33 xs i h0 hlt))
    simp only [laws_szSampleS.l0]; rw [if_pos hlt, if_pos h0, hr]
    simp only [Option.bind_some]
    by_cases hneg : r < 0
    · rw [if_pos hneg]; exact ⟨_, rfl, fun h => by omega⟩
    · rw [if_neg hneg, wi (i + 1) (by omega) (by omega)]
      obtain ⟨q, hq, hs⟩ := ih k r (i + 1) (by omega) (by omega) (by omega) (by omega) (by omega) (by omega)
      refine ⟨q, hq, fun h x hx => ?_⟩
      rw [drop_rd33 xs i h0 hlt] at hx
      rcases List.mem_cons.1 hx with rfl | hx
      · have := hsum (by omega); omega
      · exact hs h x hx
/-- The law's own measure of a list: below 0, or the list and its strings are short. -/
theorem szSampleS_some (xs : List S28) (hf : Fit xs) (hl : xs.length ≤ 9223372036854775807) (k : Nat) (hk : xs.length < k ∨ 1048576 < k) : ∃ r, laws_szSampleS.f k xs 1048576 = some r ∧ (r < 0 ∨ xs.length ≤ 1048576 ∧ Short xs) := by
  unfold laws_szSampleS.f
  rw [wi (1048576 - (xs.length : Int)) (by omega) (by omega)]
  by_cases h : (1048576 : Int) - (xs.length : Int) < 0
  · rw [if_pos h]; exact ⟨_, rfl, .inl (by omega)⟩
  · rw [if_neg h]
    obtain ⟨r, hr, hs⟩ := szSampleS_l0 xs hf (by omega) xs.length k (1048576 - (xs.length : Int)) 0 (by omega) (by omega) (by omega) (by omega) (by omega) (by omega)
    refine ⟨r, hr, ?_⟩
    by_cases hneg : r < 0
    · exact .inl hneg
    · exact .inr ⟨by omega, by simpa using hs (by omega)⟩
theorem toSampleS_l0 (xs : List S28) (hm : xs.length ≤ 1048576) (d : Nat) : ∀ (k : Nat) (o : List S31) (i : Int), 0 ≤ i → i ≤ xs.length → (xs.length : Int) - i = d → d < k → o.length = xs.length →
    laws_toSampleS.l0 k xs o i = some (o.take i.toNat ++ (xs.drop i.toNat).map conv) := by
  induction d with
  | zero =>
    intro k o i h0 h1 hd hk ho
    obtain ⟨k, rfl⟩ : ∃ m, k = m + 1 := ⟨k - 1, by omega⟩
    simp only [laws_toSampleS.l0]; rw [if_neg (by omega), drop_end_ xs i (by omega), List.take_of_length_le (by omega)]; simp
  | succ d ih =>
    intro k o i h0 h1 hd hk ho
    obtain ⟨k, rfl⟩ : ∃ m, k = m + 1 := ⟨k - 1, by omega⟩
    have hlt : i < (xs.length : Int) := by omega
    have hl : i.toNat < o.length := by omega
    simp only [laws_toSampleS.l0, laws_toSample.f, Option.bind_some]; rw [if_pos hlt, if_pos h0, if_pos (by omega), wi (i + 1) (by omega) (by omega), ih k _ (i + 1) (by omega) (by omega) (by omega) (by omega) (by simpa using ho), drop_rd33 xs i h0 hlt]
    rw [show (i + 1).toNat = i.toNat + 1 from by omega, List.take_succ_eq_append_getElem (by simpa using hl), List.take_set_of_le (Nat.le_refl _)]
    simp [conv]
theorem toSampleS_same (xs : List S28) (hm : xs.length ≤ 1048576) (k : Nat) (hk : xs.length < k) : laws_toSampleS.f k xs = some (xs.map conv) := by
  unfold laws_toSampleS.f
  rw [if_pos (by omega), if_pos (by omega), toSampleS_l0 xs hm xs.length k _ 0 (by omega) (by omega) (by omega) (by omega) (by simp)]
  simp
theorem eqSampleS_l0 (xs : List S31) (hm : xs.length ≤ 1048576) (d : Nat) : ∀ (k : Nat) (i : Int), 0 ≤ i → i ≤ xs.length → (xs.length : Int) - i = d → d < k →
    laws_eqSampleS.l0 k xs xs i = some true := by
  induction d with
  | zero =>
    intro k i h0 h1 hd hk
    obtain ⟨k, rfl⟩ : ∃ m, k = m + 1 := ⟨k - 1, by omega⟩
    simp only [laws_eqSampleS.l0]; rw [if_neg (by omega)]
  | succ d ih =>
    intro k i h0 h1 hd hk
    obtain ⟨k, rfl⟩ : ∃ m, k = m + 1 := ⟨k - 1, by omega⟩
    have hlt : i < (xs.length : Int) := by omega
    simp only [laws_eqSampleS.l0, laws_eqSample.f, if_true, Option.bind_some]; rw [if_pos hlt, if_pos h0, if_pos hlt, wi (i + 1) (by omega) (by omega)]
    exact ih k (i + 1) (by omega) (by omega) (by omega) (by omega)
theorem eqSampleS_same (xs : List S31) (hm : xs.length ≤ 1048576) (k : Nat) (hk : xs.length < k) : laws_eqSampleS.f k xs xs = some true := by
  unfold laws_eqSampleS.f
  rw [if_pos rfl]
  exact eqSampleS_l0 xs hm xs.length k 0 (by omega) (by omega) (by omega) (by omega)
/-- The text of a list of samples behind a text, and whether all are samples. -/
def prt : List S31 → List UInt8 → List UInt8 × Bool
  | [], o => (o, true)
  | x :: xs, o => if sampleB x.f0.data.toList x.f1.data.toList x.f2 x.f3 = true then prt xs (o ++ (lineT x.f0.data.toList x.f1.data.toList x.f2 x.f3 ++ [10])) else ([], false)
def Short6 (xs : List S31) : Prop := ∀ x ∈ xs, x.f0.size ≤ 1048576 ∧ x.f1.size ≤ 1048576
theorem mem_rd36 (xs : List S31) (i : Int) (h0 : 0 ≤ i) (h : i < (xs.length : Int)) : rd_T31 xs i ∈ xs := by
  have hl : i.toNat < xs.length := by omega
  have : rd_T31 xs i = xs[i.toNat] := by simp [rd_T31, List.getD_eq_getElem?_getD, List.getElem?_eq_getElem hl]
  rw [this]
  exact List.getElem_mem hl
theorem print_loops (xs : List S31) (hm : xs.length ≤ 100) (hs : Short6 xs) (d : Nat) : ∀ (k : Nat) (o : List UInt8) (i : Int), 0 ≤ i → i ≤ xs.length → (xs.length : Int) - i = d → d + 1048577 < k → (o.length : Int) ≤ 200 * i →
    spec_PrintScrape.l0 k xs (B o) i = some (B (prt (xs.drop i.toNat) o).1, (prt (xs.drop i.toNat) o).2) ∧ impl_PrintScrape.l0 k (B o) xs (xs.length : Int) i = some (B (prt (xs.drop i.toNat) o).1, (prt (xs.drop i.toNat) o).2) := by
  induction d with
  | zero =>
    intro k o i h0 h1 hd hk ho
    obtain ⟨k, rfl⟩ : ∃ m, k = m + 1 := ⟨k - 1, by omega⟩
    simp only [spec_PrintScrape.l0, impl_PrintScrape.l0]
    rw [if_neg (by omega), if_neg (by omega), drop_end_ xs i (by omega)]
    exact ⟨rfl, rfl⟩
  | succ d ih =>
    intro k o i h0 h1 hd hk ho
    obtain ⟨k, rfl⟩ : ∃ m, k = m + 1 := ⟨k - 1, by omega⟩
    have hlt : i < (xs.length : Int) := by omega
    have hx := hs _ (mem_rd36 xs i h0 hlt)
    rw [drop_rd36 xs i h0 hlt]
    generalize hxe : rd_T31 xs i = x at *
    obtain ⟨f0, f1, f2, f3⟩ := x
    simp only at hx
    have p0 : f0.data.toList.length ≤ 1048576 := by rw [← Lib.size_eq]; exact hx.1
    have p1 : f1.data.toList.length ≤ 1048576 := by rw [← Lib.size_eq]; exact hx.2
    have s1 := sample_some f0.data.toList f1.data.toList f2 f3 p0 p1 k (by omega)
    have l1 := line_spec f0.data.toList f1.data.toList f2 f3 p0 p1 k (by omega)
    have l2 := line_impl f0.data.toList f1.data.toList f2 f3 p0 p1 k (by omega)
    have ll := lineT_len f0.data.toList f1.data.toList f2 f3
    rw [← B_of f0, ← B_of f1] at s1 l1 l2
    have hn : (⟨#[10]⟩ : ByteArray) = B [10] := rfl
    obtain ⟨e1, e2⟩ := ih k (o ++ (lineT f0.data.toList f1.data.toList f2 f3 ++ [10])) (i + 1) (by omega) (by omega) (by omega) (by omega) (by simp only [List.length_append, List.length_cons, List.length_nil]; omega)
    simp only [prt]
    constructor
    · simp only [spec_PrintScrape.l0]
      rw [if_pos hlt, if_pos h0]
      simp only [hxe, s1.1, Option.bind_some]
      by_cases c : sampleB f0.data.toList f1.data.toList f2 f3 = true
      · rw [if_pos c, if_pos c]
        simp only [l1, Option.bind_some, hn, B_app, B_size]
        rw [if_pos (by omega), if_pos (by rw [List.length_append]; omega), wi (i + 1) (by omega) (by omega), List.append_assoc, e1]
      · rw [if_neg c, if_neg c]; rfl
    · simp only [impl_PrintScrape.l0]
      rw [if_pos hlt, if_pos h0, if_pos hlt]
      simp only [hxe, s1.2, Option.bind_some]
      by_cases c : sampleB f0.data.toList f1.data.toList f2 f3 = true
      · rw [if_pos c, if_pos c]
        simp only [l2, Option.bind_some, hn, B_app, B_size]
        rw [if_pos (by omega), if_pos (by simp only [List.length_append, List.length_cons, List.length_nil]; omega), wi (i + 1) (by omega) (by omega), e2]
      · rw [if_neg c, if_neg c]; rfl
theorem law_PrintScrape (l : List S28) (hf : Fit l) (hl : l.length ≤ 9223372036854775807) : ∃ k, laws_FnExactPrintScrape.f k l = some true := by
  refine ⟨1050000, ?_⟩
  unfold laws_FnExactPrintScrape.f
  obtain ⟨r, hr, hc⟩ := szSampleS_some l hf hl 1050000 (by omega)
  rw [hr]
  simp only [Option.bind_some]
  by_cases hneg : r < 0
  · rw [if_pos hneg]
  · rw [if_neg hneg]
    obtain ⟨hlen, hsh⟩ : l.length ≤ 1048576 ∧ Short l := by
      rcases hc with h | h
      · omega
      · exact h
    have hlen' : (l.map conv).length ≤ 1048576 := by simpa using hlen
    have hsh' : Short6 (l.map conv) := by
      intro x hx
      obtain ⟨y, hy, rfl⟩ := List.mem_map.1 hx
      exact hsh y hy
    rw [toSampleS_same l hlen 1050000 (by omega)]
    simp only [Option.bind_some]
    obtain ⟨q, e1, e2⟩ : ∃ q, spec_PrintScrape.f 1050000 (l.map conv) = some q ∧ impl_PrintScrape.f 1050000 (l.map conv) = some q := by
      unfold spec_PrintScrape.f impl_PrintScrape.f
      by_cases h100 : ((l.map conv).length : Int) > 100
      · rw [if_pos h100, if_pos h100]; exact ⟨_, rfl, rfl⟩
      · rw [if_neg h100, if_neg h100]
        obtain ⟨e1, e2⟩ := print_loops (l.map conv) (by omega) hsh' (l.map conv).length 1050000 [] 0 (by omega) (by omega) (by omega) (by omega) (by simp)
        exact ⟨_, e1, e2⟩
    rw [e1, e2]
    simp only [Option.bind_some, if_true, bne_self_eq_false]
    obtain ⟨k, hk⟩ : ∃ k, 1050000 = k + 1 := ⟨1049999, rfl⟩
    rw [hk]
    simp only [laws_FnExactPrintScrape.j0]
    rw [if_neg (by decide), toSampleS_same l hlen k (by omega)]
    simp only [Option.bind_some]
    rw [eqSampleS_same _ hlen' k (by omega)]
    simp
end Go.Proofs.YtjelbcdloocacaaDoor.PurePrint
