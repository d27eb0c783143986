/-
The program's ParseScrape and the reference's return the same samples and rows, for every text; what is laid into the results stays there.
Conditions: the text has at most 2^20 bytes where a theorem says so.
-/
import Derived.Test.YtjelbcdloocacaaGreatDoorSQAx0
import Derived.Test.YtjelbcdloocacaaGreatDoorSQAx1
import Derived.Test.YtjelbcdloocacaaGreatDoorSQAx2
import Derived.Test.YtjelbcdloocacaaGreatDoorSQAx4
import Derived.Test.YtjelbcdloocacaaGreatDoorSQAx5
import Derived.Test.YtjelbcdloocacaaGreatDoorSQAx6
import Derived.Test.YtjelbcdloocacaaGreatDoorSQAx7
import Derived.Test.YtjelbcdloocacaaGreatDoorSHand
import Derived.Test.YtjelbcdloocacaaGreatDoorSContains
import Derived.Test.YtjelbcdloocacaaGreatDoorSQCx2
import Derived.Test.YtjelbcdloocacaaGreatDoorSQCx3
import Derived.Test.YtjelbcdloocacaaGreatDoorSPureMilli
import Derived.Test.YtjelbcdloocacaaGreatDoorSPureParse
import Derived.Test.YtjelbcdloocacaaGreatDoorSPureLine
import Derived.Test.YtjelbcdloocacaaGreatDoorSPureSample
namespace Go.Proofs.YtjelbcdloocacaaGreatDoor.PureScrape
open Go Go.RowKit Go.Proofs.YtjelbcdloocacaaGreatDoor.QC Go.Proofs.YtjelbcdloocacaaGreatDoor.QA Go.Proofs.YtjelbcdloocacaaGreatDoor.Hand Go.Proofs.YtjelbcdloocacaaGreatDoor.Contains Go.Proofs.YtjelbcdloocacaaGreatDoor.Given Go.Proofs.YtjelbcdloocacaaGreatDoor.PureMilli Go.Proofs.YtjelbcdloocacaaGreatDoor.PureParse Go.Proofs.YtjelbcdloocacaaGreatDoor.PureLine Go.Proofs.YtjelbcdloocacaaGreatDoor.PureSample Go.Proofs.YtjelbcdloocacaaGreatDoorW.PrintWords Go.Proofs.YtjelbcdloocacaaGreatDoorW.PrintLast Go.Proofs.YtjelbcdloocacaaGreatDoorW.PrintMore
theorem eqSampleS_l0 (xs : List S34) (hm : xs.length ≤ 1048576) (d : Nat) : ∀ (k : Nat) (i : Int), 0 ≤ i → i ≤ xs.length → (xs.length : Int) - i = d → d < k →
    laws_eqSampleS.l0 k xs xs i = some true := by
  induction d with
  | zero =>
    intro k i h0 h1 hd hk
    obtain ⟨k, rfl⟩ : ∃ m, k = m + 1 := ⟨k - 1, by omega⟩
    simp only [laws_eqSampleS.l0]; rw [if_neg (by omega)]
  | succ d ih =>
    intro k i h0 h1 hd hk
    obtain ⟨k, rfl⟩ : ∃ m, k = m + 1 := ⟨k - 1, by omega⟩
    have hlt : i < (xs.length : Int) := by omega
    simp only [laws_eqSampleS.l0, laws_eqSample.f, if_true, Option.bind_some]; rw [if_pos hlt, if_pos h0, if_pos hlt, wi (i + 1) (by omega) (by omega)]
    exact ih k (i + 1) (by omega) (by omega) (by omega) (by omega)
theorem eqSampleS_same (xs : List S34) (hm : xs.length ≤ 1048576) (k : Nat) (hk : xs.length < k) : laws_eqSampleS.f k xs xs = some true := by
  unfold laws_eqSampleS.f
  rw [if_pos rfl]
  exact eqSampleS_l0 xs hm xs.length k 0 (by omega) (by omega) (by omega) (by omega)
theorem eqIntS_l0 (xs : List Int) (hm : xs.length ≤ 1048576) (d : Nat) : ∀ (k : Nat) (i : Int), 0 ≤ i → i ≤ xs.length → (xs.length : Int) - i = d → d < k →
    laws_eqIntS.l0 k xs xs i = some true := by
  induction d with
  | zero =>
    intro k i h0 h1 hd hk
    obtain ⟨k, rfl⟩ : ∃ m, k = m + 1 := ⟨k - 1, by omega⟩
    simp only [laws_eqIntS.l0]; rw [if_neg (by omega)]
  | succ d ih =>
    intro k i h0 h1 hd hk
    obtain ⟨k, rfl⟩ : ∃ m, k = m + 1 := ⟨k - 1, by omega⟩
    have hlt : i < (xs.length : Int) := by omega
    simp only [laws_eqIntS.l0]; simp only [if_true]; rw [if_pos hlt, if_pos h0, if_pos hlt, wi (i + 1) (by omega) (by omega)]
    exact ih k (i + 1) (by omega) (by omega) (by omega) (by omega)
theorem eqIntS_same (xs : List Int) (hm : xs.length ≤ 1048576) (k : Nat) (hk : xs.length < k) : laws_eqIntS.f k xs xs = some true := by
  unfold laws_eqIntS.f
  rw [if_pos rfl]
  exact eqIntS_l0 xs hm xs.length k 0 (by omega) (by omega) (by omega) (by omega)
theorem drop_at_ (xs : List S34) (i : Nat) (h : i < xs.length) : xs.drop i = rd_T34 xs (i : Int) :: xs.drop (i + 1) := by
  rw [List.drop_eq_getElem_cons h]
  simp [rd_T34, List.getD_eq_getElem?_getD, List.getElem?_eq_getElem h]
/-- Both make the same lines. -/
theorem lines_same (s : List UInt8) (hs : s.length ≤ 1048576) (k : Nat) (hk : s.length + 2 ≤ k) : ∃ L : List ByteArray, spec_l02Lines.f k (B s) = some L ∧ impl_linesOf.f (B s) = some L ∧ L.length ≤ s.length + 1 ∧ ∀ x ∈ L, x.size ≤ s.length := by
  have h1 : spec_l01Parts.f k (B s) 10 = some ((parts 10 [] s).map B) := parts_f s hs 10 k hk
  have h2 : strings_Split.f (B s) (⟨#[10]⟩ : ByteArray) = some ((parts 10 [] s).map B) := split_some s hs 10
  have hc := parts_count 10 s []
  have hp := parts_le 10 s []
  have hne := parts_ne 10 s []
  have hlen : 1 ≤ (parts 10 [] s).length := by
    cases hq : parts 10 [] s with
    | nil => exact absurd hq hne
    | cons _ _ => simp
  have hsz : ∀ x ∈ (parts 10 [] s).map B, x.size ≤ s.length := by
    intro x hx
    obtain ⟨y, hy, rfl⟩ := List.mem_map.1 hx
    have := hp y hy
    rw [B_size]
    simpa using this
  obtain ⟨L, hL⟩ : ∃ L, L = (parts 10 [] s).map B := ⟨_, rfl⟩
  have hLl : L.length = (parts 10 [] s).length := by rw [hL, List.length_map]
  rw [← hL] at h1 h2 hsz
  unfold spec_l02Lines.f impl_linesOf.f
  rw [h1, h2]
  simp only [Option.bind_some]
  rw [wi ((L.length : Int) - 1) (by omega) (by omega), if_pos (by omega), if_pos (by omega)]
  by_cases he : (rdOf ByteArray.empty L ((L.length : Int) - 1)).toList = ([] : List UInt8)
  · rw [if_pos he, if_pos (by omega)]
    exact ⟨_, rfl, rfl, by rw [List.length_take]; omega, fun x hx => hsz x (List.mem_of_mem_take hx)⟩
  · rw [if_neg he]
    exact ⟨_, rfl, rfl, by omega, hsz⟩
/-- The search through the samples read before. -/
theorem scan (L : List ByteArray) (out : List S34) (bad : List Int) (i : Int) (p m : ByteArray) (v t : Int) (ho : out.length ≤ 1000000) : ∀ (e j : Nat) (ok : Bool) (k : Nat), j + e = out.length →
    spec_ParseScrape.l1 (k + e + 1) L out bad i ok (j : Int) p m v t = (if (ok && !((out.drop j).any (same p m t))) = true then (if out.length < 2932031007402 then spec_ParseScrape.l0 k L (out ++ [(⟨p, m, v, t⟩ : S34)]) bad (wrap64 (i + 1)) else none) else (if bad.length < 17592186044416 then spec_ParseScrape.l0 k L out (bad ++ [wrap64 (i + 1)]) (wrap64 (i + 1)) else none))
  | 0, j, ok, k, hj => by
    rw [spec_ParseScrape.l1, if_neg (by omega), List.drop_eq_nil_of_le (by omega)]
    simp
  | e + 1, j, ok, k, hj => by
    have ih := fun ok' => scan L out bad i p m v t ho e (j + 1) ok' k (by omega)
    rw [show k + (e + 1) + 1 = (k + e + 1) + 1 from by omega, spec_ParseScrape.l1, if_pos (by omega), if_pos (by omega), wi ((j : Int) + 1) (by omega) (by omega), show ((j : Int) + 1) = ((j + 1 : Nat) : Int) from by omega, ih, ih, drop_at_ out j (by omega)]
    simp only [List.any_cons, same]
    by_cases a : (rd_T34 out (j : Int)).f0.toList = p.toList
    · rw [if_pos a]
      by_cases b : (rd_T34 out (j : Int)).f1.toList = m.toList
      · rw [if_pos b]
        by_cases c : (rd_T34 out (j : Int)).f3 = t
        · rw [if_pos c]; simp [a, b, c]
        · rw [if_neg c]; simp [c]
      · rw [if_neg b]; simp [b]
    · rw [if_neg a]; simp [a]
theorem l0_grow (L : List ByteArray) (out : List S34) (bad : List Int) (i : Int) (k1 : Nat) : ∀ k2, k1 ≤ k2 → LeO (spec_ParseScrape.l0 k1 L out bad i) (spec_ParseScrape.l0 k2 L out bad i) := by
  intro k2 h
  induction k2 with
  | zero => obtain rfl := Nat.le_zero.1 h; exact LeO.refl _
  | succ k ih =>
    rcases Nat.lt_or_ge k1 (k + 1) with h' | h'
    · exact (ih (by omega)).trans ((spec_ParseScrape.mono_l k).1 _ _ _ _)
    · obtain rfl : k1 = k + 1 := by omega
      exact LeO.refl _
/-- How many rounds the rows take. -/
def need : Nat → Nat
  | 0 => 1048605
  | d + 1 => need d + 300
theorem need_ge : ∀ d, 1048605 ≤ need d
  | 0 => Nat.le_refl _
  | d + 1 => Nat.le_trans (need_ge d) (Nat.le_add_right _ _)
theorem need_le : ∀ d, need d ≤ 1048605 + d * 300
  | 0 => Nat.le_refl _
  | d + 1 => by
    have := need_le d
    show need d + 300 ≤ _
    rw [Nat.succ_mul]
    omega
theorem rows_same (L : List ByteArray) (hL : L.length ≤ 100) (hsz : ∀ x ∈ L, x.size ≤ 1048576) : ∀ (d i : Nat) (out : List S34) (bad : List Int) (k : Nat), i + d = L.length → out.length ≤ i → bad.length ≤ i → need d ≤ k →
    ∃ r, spec_ParseScrape.l0 k L out bad (i : Int) = some r ∧ impl_ParseScrape.l0 k out bad L (L.length : Int) (i : Int) = some r ∧ r.1.length ≤ 100 ∧ r.2.length ≤ 100
  | 0, i, out, bad, k, hi, ho, hb, hk => by
    have hge := need_ge 0
    obtain ⟨k, rfl⟩ : ∃ m, k = m + 1 := ⟨k - 1, by omega⟩
    rw [spec_ParseScrape.l0, impl_ParseScrape.l0, if_neg (by omega), if_neg (by omega)]
    exact ⟨_, rfl, rfl, by simp; omega, by simp; omega⟩
  | d + 1, i, out, bad, k, hi, ho, hb, hk => by
    have hge := need_ge d
    have hst : need (d + 1) = need d + 300 := rfl
    obtain ⟨k, rfl⟩ : ∃ m, k = m + 2 := ⟨k - 2, by omega⟩
    obtain ⟨x, hx⟩ : ∃ x, x = rdOf ByteArray.empty L (i : Int) := ⟨_, rfl⟩
    have hmem : x ∈ L := by
      rw [hx]
      unfold rdOf
      rw [show ((i : Int)).toNat = i from by omega, List.getD_eq_getElem?_getD, List.getElem?_eq_getElem (by omega)]
      exact List.getElem_mem _
    have hxs := hsz x hmem
    have hxl : x.data.toList.length ≤ 1048576 := by rw [← Lib.size_eq]; exact hxs
    have next : ∀ (out : List S34) (bad : List Int) (k1 k2 : Nat), out.length ≤ i + 1 → bad.length ≤ i + 1 → need d ≤ k1 → need d ≤ k2 → ∃ r, spec_ParseScrape.l0 k1 L out bad (wrap64 ((i : Int) + 1)) = some r ∧ impl_ParseScrape.l0 k2 out bad L (L.length : Int) (wrap64 ((i : Int) + 1)) = some r ∧ r.1.length ≤ 100 ∧ r.2.length ≤ 100 := by
      intro out bad k1 k2 h1 h2 h3 h4
      obtain ⟨r1, a1, a2, a3, a4⟩ := rows_same L hL hsz d (i + 1) out bad k1 (by omega) h1 h2 h3
      obtain ⟨r2, b1, b2, b3, b4⟩ := rows_same L hL hsz d (i + 1) out bad k2 (by omega) h1 h2 h4
      rw [wi ((i : Int) + 1) (by omega) (by omega), show ((i : Int) + 1) = ((i + 1 : Nat) : Int) from by omega]
      have e : r1 = r2 := by
        rcases Nat.le_total k1 k2 with h | h
        · have := (l0_grow L out bad ((i + 1 : Nat) : Int) k1 k2 h) r1 a1
          rw [b1] at this
          exact (Option.some.inj this).symm
        · have := (l0_grow L out bad ((i + 1 : Nat) : Int) k2 k1 h) r2 b1
          rw [a1] at this
          exact Option.some.inj this
      subst e
      exact ⟨r1, a1, b2, a3, a4⟩
    have hj : ∀ b : Bool, ∃ r, spec_ParseScrape.j1 (k + 1) L out bad (i : Int) b = some r ∧ impl_ParseScrape.j2 (k + 1) out bad (i : Int) x L (L.length : Int) (i : Int) b = some r ∧ r.1.length ≤ 100 ∧ r.2.length ≤ 100 := by
      intro b
      cases b
      · have es : spec_ParseScrape.j1 (k + 1) L out bad (i : Int) false = (spec_ParseSample.f k x).bind fun bt215 => (spec_ParseScrape.l1 k L out bad (i : Int) bt215.2.2.2.2 0 bt215.1 bt215.2.1 bt215.2.2.1 bt215.2.2.2.1) := by
          rw [spec_ParseScrape.j1, if_neg (by simp), if_pos (by omega), if_pos (by omega), ← hx]
        rw [es, impl_ParseScrape.j2, if_neg (by simp)]
        rcases ps_same x.data.toList hxl k (by omega) with ⟨h1, h2⟩ | ⟨p, m, v, t, _, _, h1, h2⟩
        · rw [B_of x, h1, h2]
          simp only [Option.bind_some, noSample]
          obtain ⟨k', rfl⟩ : ∃ q, k = q + out.length + 1 := ⟨k - out.length - 1, by omega⟩
          have hsc := scan L out bad (i : Int) (⟨#[]⟩ : ByteArray) (⟨#[]⟩ : ByteArray) 0 0 (by omega) out.length 0 false k' (by omega)
          rw [show (((0 : Nat) : Int)) = 0 from rfl] at hsc
          rw [hsc, if_neg (by simp), if_pos (by omega), if_neg (by simp), if_pos (by omega)]
          exact next out (bad ++ [wrap64 ((i : Int) + 1)]) k' (k' + out.length + 1) (by omega) (by rw [List.length_append, List.length_singleton]; omega) (by omega) (by omega)
        · rw [B_of x, h1, h2]
          simp only [Option.bind_some, slices_ContainsFunc.f]
          obtain ⟨k', rfl⟩ : ∃ q, k = q + out.length + 1 := ⟨k - out.length - 1, by omega⟩
          have hsc := scan L out bad (i : Int) (B p) (B m) v t (by omega) out.length 0 true k' (by omega)
          rw [show (((0 : Nat) : Int)) = 0 from rfl] at hsc
          rw [hsc, List.drop_zero]
          cases hq : out.any (same (B p) (B m) t)
          · rw [if_pos (by simp), if_pos (by omega), if_pos trivial, if_neg (by simp), if_pos (by omega)]
            exact next (out ++ [⟨B p, B m, v, t⟩]) bad k' (k' + out.length + 1) (by rw [List.length_append, List.length_singleton]; omega) (by omega) (by omega) (by omega)
          · rw [if_neg (by simp), if_pos (by omega), if_pos trivial, if_pos rfl, if_pos (by omega)]
            exact next out (bad ++ [wrap64 ((i : Int) + 1)]) k' (k' + out.length + 1) (by omega) (by rw [List.length_append, List.length_singleton]; omega) (by omega) (by omega)
      · rw [spec_ParseScrape.j1, impl_ParseScrape.j2, if_pos rfl, if_pos rfl]
        exact next out bad _ _ (by omega) (by omega) (by omega) (by omega)
    have es : spec_ParseScrape.l0 (k + 2) L out bad (i : Int) = (if x.toList = ([] : List UInt8) then spec_ParseScrape.j1 (k + 1) L out bad (i : Int) true else (if 0 < (x.size : Int) then spec_ParseScrape.j1 (k + 1) L out bad (i : Int) ((bt x 0) == 35) else none)) := by
      rw [spec_ParseScrape.l0, if_pos (by omega), if_pos (by omega), ← hx]
    have ei : impl_ParseScrape.l0 (k + 2) out bad L (L.length : Int) (i : Int) = (if x.toList = ([] : List UInt8) then impl_ParseScrape.j2 (k + 1) out bad (i : Int) x L (L.length : Int) (i : Int) true else (if 0 < (x.size : Int) then impl_ParseScrape.j2 (k + 1) out bad (i : Int) x L (L.length : Int) (i : Int) ((bt x 0) == 35) else none)) := by
      rw [impl_ParseScrape.l0, if_pos (by omega), if_pos (by omega), if_pos (by omega), ← hx]
    rw [es, ei]
    by_cases he : x.toList = ([] : List UInt8)
    · rw [if_pos he, if_pos he]; exact hj true
    · rw [if_neg he, if_neg he]
      have h0 : 0 < (x.size : Int) := by
        rw [Lib.size_eq]
        rw [Lib.toList_data] at he
        cases hq : x.data.toList with
        | nil => exact absurd hq he
        | cons _ _ => simp only [List.length_cons]; omega
      rw [if_pos h0, if_pos h0]
      exact hj _
theorem scrape_same (s : List UInt8) (hs : s.length ≤ 1048576) (k : Nat) (hk : 1100000 ≤ k) : ∃ r, spec_ParseScrape.f k (B s) = some r ∧ impl_ParseScrape.f k (B s) = some r ∧ r.1.length ≤ 100 ∧ r.2.length ≤ 100 := by
  obtain ⟨L, h1, h2, h3, h4⟩ := lines_same s hs k (by omega)
  unfold spec_ParseScrape.f impl_ParseScrape.f
  rw [h2, B_size]
  simp only [Option.bind_some]
  obtain ⟨k, rfl⟩ : ∃ m, k = m + 1 := ⟨k - 1, by omega⟩
  by_cases hb : (s.length : Int) > 3000
  · rw [if_pos hb, if_pos hb, impl_ParseScrape.j0, if_pos rfl]
    exact ⟨_, rfl, rfl, by simp, by simp⟩
  · rw [if_neg hb, if_neg hb, h1]
    simp only [Option.bind_some]
    by_cases hl : (L.length : Int) > 100
    · rw [if_pos hl, decide_eq_true hl, impl_ParseScrape.j0, if_pos rfl]
      exact ⟨_, rfl, rfl, by simp, by simp⟩
    · rw [if_neg hl, decide_eq_false hl, impl_ParseScrape.j0, if_neg (by simp)]
      have hne := need_le L.length
      obtain ⟨r1, a1, a2, a3, a4⟩ := rows_same L (by omega) (fun x hx => Nat.le_trans (h4 x hx) hs) L.length 0 [] [] (k + 1) (by omega) (by simp) (by simp) (by omega)
      obtain ⟨r2, b1, b2, b3, b4⟩ := rows_same L (by omega) (fun x hx => Nat.le_trans (h4 x hx) hs) L.length 0 [] [] k (by omega) (by simp) (by simp) (by omega)
      have := (l0_grow L [] [] ((0 : Nat) : Int) k (k + 1) (by omega)) r2 b1
      rw [a1] at this
      obtain rfl := Option.some.inj this
      exact ⟨r1, a1, b2, a3, a4⟩
/-! The marks that the law lays and asks for again. -/
theorem mark_l0 : ∀ (d : Nat) (x : Int) (acc : ByteArray) (k : Nat), x.natAbs < 10 ^ d → d < k → x ≤ 9223372036854775807 → -9223372036854775808 ≤ x → acc.size + d ≤ 1000 → ∃ r, laws_markText.l0 k x acc = some r
  | 0, x, acc, k, hx, hk, _, _, ha => by
    obtain ⟨k, rfl⟩ : ∃ m, k = m + 1 := ⟨k - 1, by omega⟩
    obtain rfl : x = 0 := by simp at hx; omega
    rw [laws_markText.l0, if_neg (by omega), if_pos (by omega)]
    exact ⟨_, rfl⟩
  | d + 1, x, acc, k, hx, hk, h1, h2, ha => by
    obtain ⟨k, rfl⟩ : ∃ m, k = m + 1 := ⟨k - 1, by omega⟩
    rw [laws_markText.l0]
    by_cases h : x > 0
    · have hq : (Int.tdiv x 10).natAbs = x.natAbs / 10 := Int.natAbs_tdiv x 10
      have hlt : x.natAbs / 10 < 10 ^ d := by
        rw [Nat.pow_succ] at hx
        omega
      have hs : ∀ n : Int, (strOfNums [n]).size = 1 := fun n => rfl
      rw [if_pos h, Option.bind_some, hs, if_pos (by omega), wi (Int.tdiv x 10) (by omega) (by omega)]
      exact mark_l0 d _ _ k (by omega) (by omega) (by omega) (by omega) (by rw [ByteArray.size_append, hs]; omega)
    · rw [if_neg h, if_pos (by omega)]
      exact ⟨_, rfl⟩
theorem mark_total (n : Int) (h0 : 0 ≤ n) (h1 : n ≤ 1000000000) : ∃ r, laws_markText.f 40 n = some r := by
  unfold laws_markText.f
  by_cases h : n ≤ 0
  · rw [if_pos h]; exact ⟨_, rfl⟩
  · rw [if_neg h]
    exact mark_l0 19 n _ 40 (by have : (10 : Nat) ^ 19 = 10000000000000000000 := by decide
                                omega) (by omega) (by omega) (by omega) (by decide)
/-- A mark's text. -/
def mt (n : Int) : ByteArray := (laws_markText.f 40 n).getD ⟨#[]⟩
theorem mark_some (n : Int) (h0 : 0 ≤ n) (h1 : n ≤ 1000000000) (k : Nat) (hk : 40 ≤ k) : laws_markText.f k n = some (mt n) := by
  obtain ⟨r, hr⟩ := mark_total n h0 h1
  have e : mt n = r := by unfold mt; rw [hr]; rfl
  rw [e]
  induction k with
  | zero => omega
  | succ k ih =>
    rcases Nat.lt_or_ge 40 (k + 1) with h | h
    · exact laws_markText.mono n k r (ih (by omega))
    · obtain rfl : k = 39 := by omega
      exact hr
def mks : Int → List S34 → List S34
  | _, [] => []
  | q, _ :: r => ⟨mt q, mt (q + 1), q + 2, q + 3⟩ :: mks (q + 4) r
def mki : Int → List Int → List Int
  | _, [] => []
  | q, _ :: r => q :: mki (q + 1) r
theorem rd_mid (pre r : List S34) (x : S34) : rd_T34 (pre ++ x :: r) (pre.length : Int) = x := by
  unfold rd_T34
  rw [show ((pre.length : Int)).toNat = pre.length from by omega]
  simp [List.getD_eq_getElem?_getD]
theorem set_mid {α : Type} (pre r : List α) (x y : α) : (pre ++ x :: r).set (pre.length : Int).toNat y = pre ++ y :: r := by
  rw [show ((pre.length : Int)).toNat = pre.length from by omega]
  simp
theorem rdi_mid (pre r : List Int) (x : Int) : rd (pre ++ x :: r) (pre.length : Int) = x := by
  unfold rd
  rw [show ((pre.length : Int)).toNat = pre.length from by omega]
  simp [List.getD_eq_getElem?_getD]
theorem marks_l0 : ∀ (r pre : List S34) (q : Int) (k : Nat), 0 ≤ q → q + 4 * r.length ≤ 100000000 → pre.length + r.length ≤ 100000000 → r.length + 41 ≤ k →
    laws_markSampleS.l0 k (pre ++ r) q (pre.length : Int) = some (q + 4 * (r.length : Int), pre ++ mks q r)
  | [], pre, q, k, h0, h1, h2, hk => by
    obtain ⟨k, rfl⟩ : ∃ m, k = m + 1 := ⟨k - 1, by omega⟩
    rw [laws_markSampleS.l0, if_neg (by simp)]
    simp [mks]
  | x :: r, pre, q, k, h0, h1, h2, hk => by
    obtain ⟨k, rfl⟩ : ∃ m, k = m + 1 := ⟨k - 1, by omega⟩
    rw [List.length_cons] at h1 h2 hk
    rw [laws_markSampleS.l0, if_pos (by rw [List.length_append, List.length_cons]; omega), mark_some q h0 (by omega) k (by omega)]
    simp only [Option.bind_some]
    rw [if_pos (by omega), wi (q + 1) (by omega) (by omega), wi (q + 1 + 1) (by omega) (by omega), wi (q + 1 + 1 + 1) (by omega) (by omega), wi (q + 1 + 1 + 1 + 1) (by omega) (by omega), mark_some (q + 1) (by omega) (by omega) k (by omega)]
    simp only [Option.bind_some, set_mid, rd_mid]
    rw [wi ((pre.length : Int) + 1) (by omega) (by omega)]
    have ih := marks_l0 r (pre ++ [⟨mt q, mt (q + 1), q + 1 + 1, q + 1 + 1 + 1⟩]) (q + 1 + 1 + 1 + 1) k (by omega) (by omega) (by rw [List.length_append, List.length_singleton]; omega) (by omega)
    rw [List.length_append, List.length_singleton, List.append_assoc, List.singleton_append] at ih
    rw [show ((pre.length : Int) + 1) = ((pre.length + 1 : Nat) : Int) from by omega, ih, mks, List.length_cons]
    rw [show q + 1 + 1 + 1 + 1 = q + 4 from by omega, show q + 1 + 1 + 1 = q + 3 from by omega, show q + 1 + 1 = q + 2 from by omega]
    simp only [List.append_assoc, List.singleton_append, Option.some.injEq, Prod.mk.injEq, and_true]
    omega
theorem marks_f (xs : List S34) (h : xs.length ≤ 2000000) (k : Nat) (hk : xs.length + 100 ≤ k) : laws_markSampleS.f k xs 1 = some (1 + 4 * (xs.length : Int), mks 1 xs) := by
  unfold laws_markSampleS.f
  exact marks_l0 xs [] 1 k (by omega) (by omega) (by simp; omega) (by omega)
theorem held_l0 : ∀ (r pre : List S34) (q : Int) (k : Nat), 0 ≤ q → q + 4 * r.length ≤ 100000000 → pre.length + r.length ≤ 100000000 → r.length + 41 ≤ k →
    laws_heldSampleS.l0 k (pre ++ mks q r) q (pre.length : Int) = some (q + 4 * (r.length : Int))
  | [], pre, q, k, h0, h1, h2, hk => by
    obtain ⟨k, rfl⟩ : ∃ m, k = m + 1 := ⟨k - 1, by omega⟩
    rw [mks, List.append_nil, laws_heldSampleS.l0, if_neg (by omega)]
    simp
  | x :: r, pre, q, k, h0, h1, h2, hk => by
    obtain ⟨k, rfl⟩ : ∃ m, k = m + 1 := ⟨k - 1, by omega⟩
    rw [List.length_cons] at h1 h2 hk
    rw [mks, laws_heldSampleS.l0, if_pos (by rw [List.length_append, List.length_cons]; omega), if_pos (by omega), mark_some q h0 (by omega) k (by omega)]
    simp only [Option.bind_some, rd_mid]
    rw [if_pos trivial, wi (q + 1) (by omega) (by omega), mark_some (q + 1) (by omega) (by omega) k (by omega)]
    simp only [Option.bind_some]
    rw [if_pos trivial, wi (q + 1 + 1) (by omega) (by omega), wi (q + 1 + 1 + 1) (by omega) (by omega), wi (q + 1 + 1 + 1 + 1) (by omega) (by omega), if_pos (by omega), if_pos (by omega)]
    rw [wi ((pre.length : Int) + 1) (by omega) (by omega)]
    have ih := held_l0 r (pre ++ [⟨mt q, mt (q + 1), q + 2, q + 3⟩]) (q + 4) k (by omega) (by omega) (by rw [List.length_append, List.length_singleton]; omega) (by omega)
    rw [List.length_append, List.length_singleton, List.append_assoc, List.singleton_append] at ih
    rw [show ((pre.length : Int) + 1) = ((pre.length + 1 : Nat) : Int) from by omega, show q + 1 + 1 + 1 + 1 = q + 4 from by omega, ih, List.length_cons]
    congr 1
    omega
theorem held_f (xs : List S34) (h : xs.length ≤ 2000000) (k : Nat) (hk : xs.length + 100 ≤ k) : laws_heldSampleS.f k (mks 1 xs) 1 = some (1 + 4 * (xs.length : Int)) := by
  unfold laws_heldSampleS.f
  exact held_l0 xs [] 1 k (by omega) (by omega) (by simp; omega) (by omega)
theorem marki_l0 : ∀ (r pre : List Int) (q : Int) (k : Nat), 0 ≤ q → q + r.length ≤ 100000000 → pre.length + r.length ≤ 100000000 → r.length < k →
    laws_markIntS.l0 k (pre ++ r) q (pre.length : Int) = some (q + (r.length : Int), pre ++ mki q r)
  | [], pre, q, k, h0, h1, h2, hk => by
    obtain ⟨k, rfl⟩ : ∃ m, k = m + 1 := ⟨k - 1, by omega⟩
    rw [laws_markIntS.l0, if_neg (by simp)]
    simp [mki]
  | x :: r, pre, q, k, h0, h1, h2, hk => by
    obtain ⟨k, rfl⟩ : ∃ m, k = m + 1 := ⟨k - 1, by omega⟩
    rw [List.length_cons] at h1 h2 hk
    rw [laws_markIntS.l0, if_pos (by rw [List.length_append, List.length_cons]; omega), if_pos (by omega), set_mid, wi (q + 1) (by omega) (by omega), wi ((pre.length : Int) + 1) (by omega) (by omega)]
    have ih := marki_l0 r (pre ++ [q]) (q + 1) k (by omega) (by omega) (by rw [List.length_append, List.length_singleton]; omega) (by omega)
    rw [List.length_append, List.length_singleton, List.append_assoc, List.singleton_append] at ih
    rw [show ((pre.length : Int) + 1) = ((pre.length + 1 : Nat) : Int) from by omega, ih, mki, List.length_cons]
    simp only [List.append_assoc, List.singleton_append, Option.some.injEq, Prod.mk.injEq, and_true]
    omega
theorem marki_f (xs : List Int) (q : Int) (h0 : 0 ≤ q) (h1 : q ≤ 100000) (h : xs.length ≤ 1000) (k : Nat) (hk : 2000 ≤ k) : laws_markIntS.f k xs q = some (q + (xs.length : Int), mki q xs) := by
  unfold laws_markIntS.f
  exact marki_l0 xs [] q k (by omega) (by omega) (by simp; omega) (by omega)
theorem heldi_l0 : ∀ (r pre : List Int) (q : Int) (k : Nat), 0 ≤ q → q + r.length ≤ 100000000 → pre.length + r.length ≤ 100000000 → r.length < k →
    laws_heldIntS.l0 k (pre ++ mki q r) q (pre.length : Int) = some (q + (r.length : Int))
  | [], pre, q, k, h0, h1, h2, hk => by
    obtain ⟨k, rfl⟩ : ∃ m, k = m + 1 := ⟨k - 1, by omega⟩
    rw [mki, List.append_nil, laws_heldIntS.l0, if_neg (by omega)]
    simp
  | x :: r, pre, q, k, h0, h1, h2, hk => by
    obtain ⟨k, rfl⟩ : ∃ m, k = m + 1 := ⟨k - 1, by omega⟩
    rw [List.length_cons] at h1 h2 hk
    rw [mki, laws_heldIntS.l0, if_pos (by rw [List.length_append, List.length_cons]; omega), if_pos (by omega), rdi_mid, if_pos rfl, wi (q + 1) (by omega) (by omega), wi ((pre.length : Int) + 1) (by omega) (by omega)]
    have ih := heldi_l0 r (pre ++ [q]) (q + 1) k (by omega) (by omega) (by rw [List.length_append, List.length_singleton]; omega) (by omega)
    rw [List.length_append, List.length_singleton, List.append_assoc, List.singleton_append] at ih
    rw [show ((pre.length : Int) + 1) = ((pre.length + 1 : Nat) : Int) from by omega, ih, List.length_cons]
    congr 1
    omega
theorem heldi_f (xs : List Int) (q : Int) (h0 : 0 ≤ q) (h1 : q ≤ 100000) (h : xs.length ≤ 1000) (k : Nat) (hk : 2000 ≤ k) : laws_heldIntS.f k (mki q xs) q = some (q + (xs.length : Int)) := by
  unfold laws_heldIntS.f
  exact heldi_l0 xs [] q k (by omega) (by omega) (by simp; omega) (by omega)
theorem law_j1 (g0 : List S34) (g1 : List Int) (h0 : g0.length ≤ 100) (h1 : g1.length ≤ 100) (k : Nat) (hk : 5000 ≤ k) : laws_FnExactParseScrape.j1 k (mks 1 g0) (mki (1 + 4 * (g0.length : Int)) g1) (1 + 4 * (g0.length : Int) + (g1.length : Int)) false = some true := by
  obtain ⟨k, rfl⟩ : ∃ m, k = m + 1 := ⟨k - 1, by omega⟩
  rw [laws_FnExactParseScrape.j1, if_neg (by simp), held_f g0 (by omega) k (by omega)]
  simp only [Option.bind_some]
  rw [if_neg (by omega), heldi_f g1 _ (by omega) (by omega) (by omega) k (by omega)]
  simp only [Option.bind_some]
  rw [if_neg (by omega), if_pos trivial]
theorem law_ParseScrape (s : ByteArray) (_ : s.size ≤ 140737488351232) : ∃ k, laws_FnExactParseScrape.f k s = some true := by
  refine ⟨1200000, ?_⟩
  unfold laws_FnExactParseScrape.f
  by_cases hs : (s.size : Int) > 1048576
  · rw [if_pos hs]
  · rw [if_neg hs, B_of s]
    have hsl : s.data.toList.length ≤ 1048576 := by rw [← Lib.size_eq]; omega
    obtain ⟨⟨g0, g1⟩, a1, a2, a3, a4⟩ := scrape_same s.data.toList hsl 1200000 (by omega)
    obtain ⟨⟨u0, u1⟩, c1, c2, c3, c4⟩ := scrape_same s.data.toList hsl 1199999 (by omega)
    have e : (u0, u1) = (g0, g1) := by
      have := impl_ParseScrape.mono (B s.data.toList) 1199999 _ c2
      rw [a2] at this
      exact (Option.some.inj this).symm
    rw [e] at c2
    rw [a1, a2]
    simp only [Option.bind_some]
    have a3' : g0.length ≤ 100 := a3
    have a4' : g1.length ≤ 100 := a4
    rw [eqSampleS_same g0 (by omega) 1200000 (by omega)]
    simp only [Option.bind_some]
    rw [if_pos trivial, eqIntS_same g1 (by omega) 1200000 (by omega)]
    simp only [Option.bind_some, Bool.not_true]
    rw [show (1200000 : Nat) = 1199999 + 1 from rfl, laws_FnExactParseScrape.j0, if_neg (by simp), marks_f g0 (by omega) 1199999 (by omega)]
    simp only [Option.bind_some]
    rw [marki_f g1 _ (by omega) (by omega) (by omega) 1199999 (by omega)]
    simp only [Option.bind_some]
    rw [held_f g0 (by omega) 1199999 (by omega)]
    simp only [Option.bind_some]
    rw [if_neg (by omega), heldi_f g1 _ (by omega) (by omega) (by omega) 1199999 (by omega)]
    simp only [Option.bind_some]
    rw [if_neg (by omega), if_pos trivial, c2]
    simp only [Option.bind_some]
    rw [eqSampleS_same g0 (by omega) 1199999 (by omega)]
    simp only [Option.bind_some]
    rw [if_pos trivial, eqIntS_same g1 (by omega) 1199999 (by omega)]
    simp only [Option.bind_some, Bool.not_true]
    exact law_j1 g0 g1 a3' a4' 1199999 (by omega)
end Go.Proofs.YtjelbcdloocacaaGreatDoor.PureScrape
