/-
The program's ParseSample and the reference's return the same, for every text: the sample whose line it is, or none.
Conditions: the text has at most 2^20 bytes where a theorem says so.
-/
import Derived.Lib.SplitLaws
import Derived.Test.YtjelbcdloocacaaGreatDoorSQAx1
import Derived.Test.YtjelbcdloocacaaGreatDoorSQAx2
import Derived.Test.YtjelbcdloocacaaGreatDoorSQAx3
import Derived.Test.YtjelbcdloocacaaGreatDoorSQAx4
import Derived.Test.YtjelbcdloocacaaGreatDoorSHand
import Derived.Test.YtjelbcdloocacaaGreatDoorSQCx1
import Derived.Test.YtjelbcdloocacaaGreatDoorSPureMilli
import Derived.Test.YtjelbcdloocacaaGreatDoorSPureParse
import Derived.Test.YtjelbcdloocacaaGreatDoorSPureLine
namespace Go.Proofs.YtjelbcdloocacaaGreatDoor.PureSample
open Go Go.RowKit Go.Proofs.YtjelbcdloocacaaGreatDoor.QC Go.Proofs.YtjelbcdloocacaaGreatDoor.QA Go.Proofs.YtjelbcdloocacaaGreatDoor.Hand Go.Proofs.YtjelbcdloocacaaGreatDoor.Given Go.Proofs.YtjelbcdloocacaaGreatDoor.PureMilli Go.Proofs.YtjelbcdloocacaaGreatDoor.PureParse Go.Proofs.YtjelbcdloocacaaGreatDoor.PureLine Go.Proofs.YtjelbcdloocacaaGreatDoorW.PrintWords Go.Proofs.YtjelbcdloocacaaGreatDoorW.PrintLast Go.Proofs.YtjelbcdloocacaaGreatDoorW.PrintMore
/-- A text parted at each byte of one kind. -/
def parts (c : UInt8) : List UInt8 → List UInt8 → List (List UInt8)
  | acc, [] => [acc]
  | acc, x :: r => if x = c then acc :: parts c [] r else parts c (acc ++ [x]) r
theorem parts_none (c : UInt8) : ∀ (l acc : List UInt8), c ∉ l → parts c acc l = [acc ++ l]
  | [], acc, _ => by simp [parts]
  | x :: r, acc, h => by
    rw [parts, if_neg (fun e => h (by rw [e]; exact List.mem_cons_self)), parts_none c r _ (fun e => h (List.mem_cons_of_mem _ e))]
    simp
theorem parts_hit (c : UInt8) (b : List UInt8) : ∀ (a acc : List UInt8), c ∉ a → parts c acc (a ++ c :: b) = (acc ++ a) :: parts c [] b
  | [], acc, _ => by simp [parts]
  | x :: r, acc, h => by
    rw [List.cons_append, parts, if_neg (fun e => h (by rw [e]; exact List.mem_cons_self)), parts_hit c b r _ (fun e => h (List.mem_cons_of_mem _ e))]
    simp
theorem split_at (c : UInt8) : ∀ (l : List UInt8), c ∈ l → ∃ a b, l = a ++ c :: b ∧ c ∉ a
  | [], h => by cases h
  | x :: r, h => by
    by_cases hx : x = c
    · exact ⟨[], r, by rw [hx]; rfl, by simp⟩
    · rcases List.mem_cons.1 h with e | h
      · exact absurd e.symm hx
      · obtain ⟨a, b, e, hn⟩ := split_at c r h
        exact ⟨x :: a, b, by rw [e]; rfl, fun hm => by
          rcases List.mem_cons.1 hm with e | hm
          · exact hx e.symm
          · exact hn hm⟩
/-- The parts, with the byte between, are the text. -/
def joined (c : UInt8) : List (List UInt8) → List UInt8
  | [] => []
  | [x] => x
  | x :: y :: r => x ++ c :: joined c (y :: r)
theorem parts_ne (c : UInt8) : ∀ (l acc : List UInt8), parts c acc l ≠ []
  | [], acc => by simp [parts]
  | x :: r, acc => by
    rw [parts]
    split
    · simp
    · exact parts_ne c r _
theorem parts_joined (c : UInt8) : ∀ (l acc : List UInt8), joined c (parts c acc l) = acc ++ l
  | [], acc => by simp [parts, joined]
  | x :: r, acc => by
    rw [parts]
    split
    · rename_i h
      have := parts_joined c r []
      cases hp : parts c [] r with
      | nil => exact absurd hp (parts_ne c r [])
      | cons y ys =>
        rw [hp] at this
        rw [joined, this, h]
        rfl
    · rw [parts_joined c r _]; simp
theorem parts_count (c : UInt8) : ∀ (l acc : List UInt8), (parts c acc l).length ≤ l.length + 1
  | [], acc => by simp [parts]
  | x :: r, acc => by
    rw [parts]
    split
    · have := parts_count c r []
      simp only [List.length_cons]
      omega
    · have := parts_count c r (acc ++ [x])
      simp only [List.length_cons]
      omega
/-- No part is longer than the text. -/
theorem parts_le (c : UInt8) : ∀ (l acc : List UInt8), ∀ p ∈ parts c acc l, p.length ≤ acc.length + l.length
  | [], acc, p, h => by
    rw [parts, List.mem_singleton] at h
    rw [h]
    omega
  | x :: r, acc, p, h => by
    rw [parts] at h
    split at h
    · rcases List.mem_cons.1 h with e | h
      · rw [e]; simp only [List.length_cons]; omega
      · have := parts_le c r [] p h
        simp only [List.length_cons, List.length_nil] at this ⊢
        omega
    · have := parts_le c r _ p h
      simp only [List.length_cons, List.length_append, List.length_nil] at this ⊢
      omega
theorem take_next (s : List UInt8) (a i : Nat) (c : UInt8) (ha : a ≤ i) (hc : s[i]? = some c) : (s.drop a).take (i + 1 - a) = (s.drop a).take (i - a) ++ [c] := by
  rw [show i + 1 - a = (i - a) + 1 from by omega, List.take_add_one, List.getElem?_drop, show a + (i - a) = i from by omega, hc]
  rfl
theorem parts_spec (s : List UInt8) (hs : s.length ≤ 1048576) (c : UInt8) : ∀ (d i a : Nat) (out : List ByteArray) (k : Nat), i + d = s.length → a ≤ i → d + 2 ≤ k → out.length ≤ i →
    spec_l01Parts.l0 k (B s) (c.toNat : Int) out (a : Int) (i : Int) = some (out ++ (parts c ((s.drop a).take (i - a)) (s.drop i)).map B)
  | 0, i, a, out, k, hi, ha, hk, ho => by
    obtain ⟨k, rfl⟩ : ∃ m, k = m + 2 := ⟨k - 2, by omega⟩
    rw [spec_l01Parts.l0, B_size, if_pos (by omega), if_pos (by omega), if_pos (by omega), if_pos (by omega), if_pos (by omega), wi ((i : Int) + 1) (by omega) (by omega), spec_l01Parts.l0, B_size, if_neg (by omega)]
    have e0 : s.drop i = [] := List.drop_eq_nil_of_le (by omega)
    rw [e0, parts, B_ext]
    simp
  | d + 1, i, a, out, k, hi, ha, hk, ho => by
    obtain ⟨k, rfl⟩ : ∃ m, k = m + 1 := ⟨k - 1, by omega⟩
    obtain ⟨x, hx⟩ : ∃ x, s[i]? = some x := ⟨s[i]'(by omega), List.getElem?_eq_getElem (by omega)⟩
    have hdr : s.drop i = x :: s.drop (i + 1) := by
      obtain ⟨h1, h2⟩ := List.getElem?_eq_some_iff.1 hx
      rw [← h2]
      exact List.drop_eq_getElem_cons h1
    have hb := B_bt s i x hx
    rw [spec_l01Parts.l0, B_size, if_pos (by omega), if_neg (by omega), if_pos (by omega), if_pos (by omega), hb, hdr, parts, wi_next i (by omega)]
    by_cases h : x = c
    · rw [if_pos (by rw [h]), if_pos (by omega), if_pos (by omega), if_pos (by omega), if_pos h]
      have := parts_spec s hs c d (i + 1) (i + 1) (out ++ [(B s).extract (a : Int).toNat (i : Int).toNat]) k (by omega) (by omega) (by omega) (by simp; omega)
      rw [this, Nat.sub_self, List.take_zero, B_ext]
      simp
    · rw [if_neg (by intro e; exact h (UInt8.toNat_inj.1 (by omega))), if_neg h]
      have := parts_spec s hs c d (i + 1) a out k (by omega) (by omega) (by omega) (by omega)
      rw [this, take_next s a i x ha hx]
theorem parts_f (s : List UInt8) (hs : s.length ≤ 1048576) (c : UInt8) (k : Nat) (hk : s.length + 2 ≤ k) : spec_l01Parts.f k (B s) (c.toNat : Int) = some ((parts c [] s).map B) := by
  unfold spec_l01Parts.f
  have := parts_spec s hs c s.length 0 0 [] k (by omega) (by omega) (by omega) (by simp)
  rw [show (((0 : Nat) : Int)) = 0 from rfl] at this
  rw [this]
  simp
theorem split_parts (c : UInt8) : ∀ (n : Nat) (s : List UInt8), s.length ≤ n → Lib.splitB (B [c]) 0 (Lib.countB (B s) (B [c])) (B s) = (parts c [] s).map B := by
  have hix : ∀ s : List UInt8, Lib.indexB (B s) (B [c]) = Lib.indexByte s c := by
    intro s
    show Lib.index (B s).data.toList (B [c]).data.toList = _
    rw [B_data, B_data, Lib.index_one]
  intro n
  induction n with
  | zero =>
    intro s hs
    obtain rfl := List.length_eq_zero_iff.1 (Nat.le_zero.1 hs)
    have h := hix []
    rw [Lib.countB_miss _ _ (h.trans rfl)]
    rfl
  | succ n ih =>
    intro s hs
    by_cases hc : c ∈ s
    · obtain ⟨a, b, rfl, ha⟩ := split_at c s hc
      have h := hix (a ++ c :: b)
      rw [indexByte_hit c a b ha] at h
      have hb : (B (a ++ c :: b)).extract (a.length + (B [c]).size) (B (a ++ c :: b)).size = B b := by
        rw [B_ext, B_size, B_size, show a ++ c :: b = (a ++ [c]) ++ b from by simp, List.drop_append_of_le_length (by simp), List.drop_eq_nil_of_le (by simp), List.nil_append, List.take_of_length_le (by simp only [List.length_append, List.length_cons, List.length_nil]; omega)]
      rw [Lib.countB_hit _ _ a.length (by rw [B_size]; simp) h, Nat.add_comm 1, Lib.splitB_hit _ _ _ _ _ h, hb, ih b (by simp only [List.length_append, List.length_cons] at hs; omega), parts_hit c b a [] ha, B_ext]
      simp
    · have h := hix s
      rw [indexByte_miss c s hc] at h
      rw [Lib.countB_miss _ _ h, Lib.splitB_zero, parts_none c s [] hc]
      simp
theorem split_some (s : List UInt8) (hs : s.length ≤ 1048576) (c : UInt8) : strings_Split.f (B s) (B [c]) = some ((parts c [] s).map B) := by
  unfold strings_Split.f
  have h := split_parts c s.length s (Nat.le_refl _)
  have hl := Lib.splitB_all (B [c]) (by rw [B_size]; simp) 0 _ (B s) rfl
  have hle := parts_count c s []
  have hm : (Lib.splitB (B [c]) 0 (Lib.countB (B s) (B [c])) (B s)).length ≤ s.length + 1 := by rw [h, List.length_map]; exact hle
  rw [if_pos ⟨by rw [B_size]; omega, by rw [B_size]; simp, hl, by omega⟩, h]
/-- How l01Read ends. -/
def ReadGood (w : List UInt8) (r : Int × Bool) : Prop := (r.2 = true → w = Lib.itoa r.1) ∧ ∀ y : Int, 0 ≤ y → y ≤ 1000000000 → w = Lib.itoa y → r = (y, true)
def fin (w ds : List UInt8) (n : Nat) : Int × Bool := if ds.length < w.length then (-(n : Int), Lib.itoa (-(n : Int)) == w) else ((n : Int), Lib.itoa (n : Int) == w)
theorem read_l0 (w ds : List UInt8) (hds : ds.length ≤ 10) : ∀ (l : List UInt8) (i x k : Nat), ds.drop i = l → x < 10 ^ i → i ≤ ds.length → l.length + 30 ≤ k →
    spec_l01Read.l0 k (B w) (B ds) (x : Int) (i : Int) = some (match Lib.decFrom x l with | none => (0, false) | some n => fin w ds n)
  | [], i, x, k, hd, hx, hi, hk => by
    obtain ⟨k, rfl⟩ : ∃ m, k = m + 1 := ⟨k - 1, by omega⟩
    have hle : ds.length ≤ i := by
      have := congrArg List.length hd
      simp only [List.length_drop, List.length_nil] at this
      omega
    have hp : 10 ^ i ≤ 10 ^ 10 := Nat.pow_le_pow_right (by decide) (by omega)
    have e10 : (10 : Nat) ^ 10 = 10000000000 := by decide
    rw [spec_l01Read.l0, B_size, B_size, if_neg (by omega)]
    simp only [Lib.decFrom, fin]
    by_cases h : ds.length < w.length
    · rw [if_pos (by omega), if_pos h, wi (-(x : Int)) (by omega) (by omega), num_some _ k (by simp at hk; omega) (by omega) (by omega)]
      simp [B_toList]
    · rw [if_neg (by omega), if_neg h, num_some _ k (by simp at hk; omega) (by omega) (by omega)]
      simp [B_toList]
  | c :: r, i, x, k, hd, hx, hi, hk => by
    obtain ⟨k, rfl⟩ : ∃ m, k = m + 1 := ⟨k - 1, by omega⟩
    obtain ⟨hc, hd'⟩ := at_drop hd
    obtain ⟨hlt, _⟩ := List.getElem?_eq_some_iff.1 hc
    have hb := B_bt ds i c hc
    have hp : 10 ^ i ≤ 10 ^ 9 := Nat.pow_le_pow_right (by decide) (by omega)
    have e9 : (10 : Nat) ^ 9 = 1000000000 := by decide
    have hcl := c.toNat_lt
    rw [spec_l01Read.l0, B_size, if_pos (by omega), if_pos (by omega), hb]
    simp only [Lib.decFrom, Lib.digitVal]
    by_cases h0 : (c.toNat : Int) < 48
    · rw [if_pos h0, if_neg (by omega)]
    · rw [if_neg h0]
      by_cases h9 : (c.toNat : Int) > 57
      · rw [if_pos h9, if_neg (by omega)]
      · rw [if_neg h9, if_pos (by omega), wi_next i (by omega)]
        rw [wi (10 * (x : Int)) (by omega) (by omega), wi (c.toNat : Int) (by omega) (by omega), wi (10 * (x : Int) + (c.toNat : Int)) (by omega) (by omega), wi (10 * (x : Int) + (c.toNat : Int) - 48) (by omega) (by omega)]
        have := read_l0 w ds hds r (i + 1) (x * 10 + (c.toNat - 48)) k hd' (by rw [Nat.pow_succ]; omega) (by omega) (by simp only [List.length_cons] at hk; omega)
        rw [show (10 * (x : Int) + (c.toNat : Int) - 48) = ((x * 10 + (c.toNat - 48) : Nat) : Int) from by omega, this]
theorem fin_good (w ds : List UInt8) (n : Nat) : (fin w ds n).2 = true → w = Lib.itoa (fin w ds n).1 := by
  unfold fin
  split
  · intro h
    exact (beq_iff_eq.1 h).symm
  · intro h
    exact (beq_iff_eq.1 h).symm
theorem itoa_pos (y : Int) (h : 0 ≤ y) : Lib.itoa y = Lib.decDigits y.toNat := by
  unfold Lib.itoa
  rw [if_neg (by omega)]
theorem read_some (w : List UInt8) (hw : w.length ≤ 1048576) (k : Nat) (hk : 100 ≤ k) : ∃ r, spec_l01Read.f k (B w) = some r ∧ ReadGood w r := by
  -- a number's text is digits, at most ten
  have nums : ∀ y : Int, 0 ≤ y → y ≤ 1000000000 → w = Lib.itoa y → Lib.decFrom 0 w = some y.toNat ∧ w ≠ [] ∧ w.length ≤ 10 ∧ ∀ c, w.head? = some c → c ≠ 45 := by
    intro y h0 h1 h
    rw [itoa_pos y h0] at h
    have hd := decFrom_dec y.toNat
    have hl := dec_len 9 y.toNat (by have : (10 : Nat) ^ (9 + 1) = 10000000000 := by decide
                                     omega)
    rw [← h] at hd hl
    refine ⟨hd, by rw [h]; exact dec_ne _, hl, fun c hc e => ?_⟩
    have := dec_digits w 0 _ hd c (by
      cases w with
      | nil => cases hc
      | cons x r => rw [List.head?_cons] at hc; injection hc with hc; rw [hc]; exact List.mem_cons_self)
    rw [e] at this
    revert this
    decide
  have hj1 : ∀ (ds : List UInt8) (m : Nat), 60 ≤ m → (ds = w ∨ w = 45 :: ds) → ∃ r, spec_l01Read.j1 m (B w) (B ds) = some r ∧ ReadGood w r := by
    intro ds m hm hor
    obtain ⟨m, rfl⟩ : ∃ n, m = n + 1 := ⟨m - 1, by omega⟩
    rw [spec_l01Read.j1, B_size]
    have hin : spec_l01In.f (ds.length : Int) 1 10 = some (decide (1 ≤ ds.length ∧ ds.length ≤ 10)) := by
      unfold spec_l01In.f
      by_cases h : 1 ≤ (ds.length : Int)
      · rw [if_pos h]; congr 1; rw [Bool.eq_iff_iff]; simp only [decide_eq_true_eq]; omega
      · rw [if_neg h]; congr 1; rw [Bool.eq_iff_iff]; simp only [decide_eq_true_eq]; constructor
        · intro e; cases e
        · omega
    rw [hin]
    simp only [Option.bind_some]
    by_cases h10 : 1 ≤ ds.length ∧ ds.length ≤ 10
    · rw [if_pos (by simpa using h10)]
      have := read_l0 w ds h10.2 ds 0 0 m rfl (by decide) (by omega) (by omega)
      rw [show (((0 : Nat) : Int)) = 0 from rfl] at this
      rw [this]
      refine ⟨_, rfl, ?_⟩
      constructor
      · split
        · intro h; cases h
        · exact fin_good _ _ _
      · intro y h0 h1 h
        obtain ⟨a, b, c, d⟩ := nums y h0 h1 h
        rcases hor with rfl | e
        · rw [a]
          simp only [fin]
          rw [if_neg (by omega), show ((y.toNat : Nat) : Int) = y from by omega, ← h]
          simp
        · exact absurd rfl (d 45 (by rw [e]; rfl))
    · rw [if_neg (by simpa using h10)]
      refine ⟨_, rfl, And.intro (fun h => by cases h) (fun y h0 h1 h => ?_)⟩
      obtain ⟨a, b, c, d⟩ := nums y h0 h1 h
      rcases hor with rfl | e
      · refine absurd ⟨?_, c⟩ h10
        cases ds with
        | nil => exact absurd rfl b
        | cons _ _ => simp
      · exact absurd rfl (d 45 (by rw [e]; rfl))
  unfold spec_l01Read.f
  obtain ⟨k, rfl⟩ : ∃ n, k = n + 1 := ⟨k - 1, by omega⟩
  rw [B_size]
  cases w with
  | nil => rw [if_neg (by simp), spec_l01Read.j0, if_neg (by simp)]; exact hj1 [] k (by omega) (.inl rfl)
  | cons c r =>
    have hb := B_bt (c :: r) 0 c rfl
    rw [show (((0 : Nat) : Int)) = 0 from rfl] at hb
    rw [if_pos (by simp only [List.length_cons]; omega), if_pos (by simp only [List.length_cons]; omega), hb, spec_l01Read.j0]
    by_cases h : c = 45
    · subst h
      rw [if_pos (by rfl), B_size, if_pos (by simp only [List.length_cons]; omega), B_ext]
      have : (List.drop 1 (45 :: r)).take ((45 :: r : List UInt8).length - 1) = r := by simp
      rw [this]
      exact hj1 r k (by omega) (.inr rfl)
    · rw [if_neg (by intro e; rw [beq_iff_eq] at e; exact h (UInt8.toNat_inj.1 (by show c.toNat = 45; omega)))]
      exact hj1 (c :: r) k (by omega) (.inl rfl)
theorem atoi_some (w : List UInt8) (hw : w.length ≤ 1048576) : ∃ n, impl_atoi.f (B w) = some n ∧ ∀ y : Int, 0 ≤ y → y ≤ 1000000000 → w = Lib.itoa y → n = y := by
  obtain ⟨n, bad, h⟩ := atoi_total w (by omega)
  unfold impl_atoi.f
  rw [h]
  refine ⟨_, rfl, fun y h0 h1 he => ?_⟩
  rw [itoa_pos y h0] at he
  have hl := dec_len 9 y.toNat (by have : (10 : Nat) ^ (9 + 1) = 10000000000 := by decide
                                   omega)
  have := atoi_digits w y.toNat (by rw [he]; exact dec_ne _) (by rw [he]; omega) (by rw [he]; exact decFrom_dec _)
  rw [this] at h
  injection h with h
  injection h with h1 h2
  subst h2
  show (if false = true then (0 : Int) else n) = y
  rw [if_neg (by simp)]
  omega
/-- The line of a sample, parted. -/
theorem no_space_name {p : List UInt8} (h : nameB p = true) : (32 : UInt8) ∉ p := by
  intro hm
  unfold nameB at h
  rw [Bool.and_eq_true] at h
  have := List.all_eq_true.1 h.1 32 hm
  revert this
  decide
theorem no_space_digits {l : List UInt8} {a n : Nat} (h : Lib.decFrom a l = some n) : (32 : UInt8) ∉ l := by
  intro hm
  have := (dec_digits l a n h 32 hm).1
  revert this
  decide
theorem no_space_milli (v : Int) : (32 : UInt8) ∉ milli v := by
  unfold milli
  split
  · intro hm
    rcases List.mem_append.1 hm with hm | hm
    · rcases List.mem_append.1 hm with hm | hm
      · split at hm
        · revert hm; decide
        · cases hm
      · exact no_space_digits (decFrom_dec _) hm
    · unfold frac at hm
      split at hm
      · cases hm
      · rename_i h0
        rcases List.mem_cons.1 hm with e | hm
        · revert e; decide
        · obtain ⟨n, t1, _⟩ := trim_three (v.natAbs % 1000) 0 h0 (by omega)
          exact no_space_digits t1 hm
  · simp
theorem line_parts {p m : List UInt8} {v t : Int} (h : sampleB p m v t = true) : parts 32 [] (lineT p m v t) = [p, m, milli v, Lib.itoa t] := by
  have hp : nameB p = true ∧ nameB m = true := by
    unfold sampleB at h
    simp only [Bool.and_eq_true] at h
    exact ⟨h.1, h.2.1⟩
  obtain ⟨_, _, _, h4⟩ := sampleB_len h
  unfold lineT
  rw [if_pos h, List.append_assoc, List.append_assoc, List.cons_append, parts_hit 32 _ p [] (no_space_name hp.1), List.cons_append, parts_hit 32 _ m [] (no_space_name hp.2), parts_hit 32 _ _ [] (no_space_milli v)]
  rw [parts_none 32 _ [] (by rw [itoa_pos t h4.1]; exact no_space_digits (decFrom_dec _))]
  rfl
def noSample : ByteArray × ByteArray × Int × Int × Bool := (⟨#[]⟩, ⟨#[]⟩, 0, 0, false)
theorem ps_same (s : List UInt8) (hs : s.length ≤ 1048576) (k : Nat) (hk : 1048600 ≤ k) :
    (spec_ParseSample.f k (B s) = some noSample ∧ impl_ParseSample.f k (B s) = some noSample) ∨ ∃ p m v t, sampleB p m v t = true ∧ s = lineT p m v t ∧ spec_ParseSample.f k (B s) = some (B p, B m, v, t, true) ∧ impl_ParseSample.f k (B s) = some (B p, B m, v, t, true) := by
  have hple := parts_le 32 s []
  have hjo := parts_joined 32 s []
  rw [List.nil_append] at hjo
  have hsp : spec_l01Parts.f k (B s) 32 = some ((parts 32 [] s).map B) := parts_f s hs 32 k (by omega)
  have him : impl_split.f (B s) 4 = some ((parts 32 [] s).map B, (((parts 32 [] s).map B).length : Int) == 4) := by
    unfold impl_split.f
    rw [show (⟨#[32]⟩ : ByteArray) = B [32] from rfl, split_some s hs 32]
    rfl
  by_cases h4 : (parts 32 [] s).length = 4
  · obtain ⟨p, m, x, t, hP⟩ : ∃ p m x t, parts 32 [] s = [p, m, x, t] := by
      match hq : parts 32 [] s, h4 with
      | [p, m, x, t], _ => exact ⟨p, m, x, t, rfl⟩
    rw [hP] at hple hjo hsp him
    have hp : p.length ≤ 1048576 := by have := hple p (by simp); simp at this; omega
    have hm : m.length ≤ 1048576 := by have := hple m (by simp); simp at this; omega
    have hx : x.length ≤ 1048576 := by have := hple x (by simp); simp at this; omega
    have ht : t.length ≤ 1048576 := by have := hple t (by simp); simp at this; omega
    obtain ⟨⟨v, okv⟩, a1, a2, a3⟩ := pm_same x hx k (by omega)
    obtain ⟨⟨y, oky⟩, b1, b2, b3⟩ := read_some t ht k (by omega)
    obtain ⟨n, c1, c2⟩ := atoi_some t ht
    -- what the reference answers
    have hspec : spec_ParseSample.f k (B s) = some (if s.length ≤ 60 ∧ okv = true ∧ oky = true ∧ sampleB p m v y = true then (B p, B m, v, y, true) else noSample) := by
      unfold spec_ParseSample.f
      rw [B_size]
      by_cases h60 : s.length ≤ 60
      · rw [if_neg (by omega), hsp]
        simp only [List.map_cons, List.map_nil, Option.bind_some, List.length_cons, List.length_nil]
        rw [if_pos (by decide), if_pos (by decide)]
        simp only [rdOf, show Int.toNat 0 = 0 from rfl, show Int.toNat 1 = 1 from rfl, show Int.toNat 2 = 2 from rfl, show Int.toNat 3 = 3 from rfl, List.getD_cons_succ, List.getD_cons_zero, a1, b1, Option.bind_some]
        rw [if_pos (by decide), if_pos (by decide), if_pos (by decide), (sample_some p m v y hp hm k (by omega)).1]
        cases okv
        · rw [if_neg (by simp), if_neg (by simp)]; rfl
        · cases oky
          · rw [if_pos rfl, if_neg (by simp), if_neg (by simp)]; rfl
          · simp only [Option.bind_some]
            rw [if_pos trivial, if_pos trivial]
            by_cases hB : sampleB p m v y = true
            · rw [if_pos hB, if_pos ⟨h60, trivial, trivial, hB⟩]
            · rw [if_neg hB, if_neg (fun h => hB h.2.2.2)]; rfl
      · rw [if_pos (by omega), if_neg (fun h => h60 h.1)]; rfl
    have himpl : impl_ParseSample.f k (B s) = some (if sampleB p m v n = true ∧ lineT p m v n = s then (B p, B m, v, n, true) else noSample) := by
      unfold impl_ParseSample.f
      rw [him]
      simp only [List.map_cons, List.map_nil, Option.bind_some, List.length_cons, List.length_nil]
      rw [if_pos (by decide), if_pos (by decide)]
      simp only [rdOf, show Int.toNat 0 = 0 from rfl, show Int.toNat 1 = 1 from rfl, show Int.toNat 2 = 2 from rfl, show Int.toNat 3 = 3 from rfl, List.getD_cons_succ, List.getD_cons_zero, a2, c1, Option.bind_some]
      rw [if_pos (by decide), if_pos (by decide), if_pos (by decide), (sample_some p m v n hp hm k (by omega)).2, line_impl p m v n hp hm k (by omega)]
      simp only [Option.bind_some, B_toList]
      by_cases hB : sampleB p m v n = true
      · rw [if_pos hB]
        by_cases hL : lineT p m v n = s
        · rw [if_pos hL, if_pos ⟨hB, hL⟩]
        · rw [if_neg hL, if_neg (fun h => hL h.2)]; rfl
      · rw [if_neg hB, if_neg (fun h => hB h.1)]; rfl
    by_cases hi : sampleB p m v n = true ∧ lineT p m v n = s
    · -- the program accepts: so does the reference
      have hpp := line_parts hi.1
      rw [hi.2, hP] at hpp
      injection hpp with _ hpp
      injection hpp with _ hpp
      injection hpp with e3 hpp
      injection hpp with e4 _
      obtain ⟨_, _, hv, hn⟩ := sampleB_len hi.1
      have hy := b3 n hn.1 hn.2 e4
      have hvv : (v, okv) = (v, true) := by
        have := pm_complete v (by omega) (by omega) k (by omega)
        rw [← e3, a1] at this
        injection this
      have hl60 : s.length ≤ 60 := by
        rw [← hi.2]
        obtain ⟨l1, l2, _, _⟩ := sampleB_len hi.1
        have l3 := milli_short v
        have l4 := dec_len 9 n.toNat (by have : (10 : Nat) ^ (9 + 1) = 10000000000 := by decide
                                         omega)
        unfold lineT
        rw [if_pos hi.1, itoa_pos n hn.1]
        simp only [List.length_append, List.length_cons]
        omega
      injection hy with e5 e6
      injection hvv with _ e7
      refine .inr ⟨p, m, v, n, hi.1, hi.2.symm, ?_, ?_⟩
      · rw [hspec, e5, if_pos ⟨hl60, e7, e6, hi.1⟩]
      · rw [himpl, if_pos hi]
    · by_cases hsx : s.length ≤ 60 ∧ okv = true ∧ oky = true ∧ sampleB p m v y = true
      · -- the reference accepts: so does the program
        exfalso
        obtain ⟨_, hov, hoy, hB⟩ := hsx
        subst hov
        subst hoy
        have e4 := b2 rfl
        obtain ⟨_, _, _, hy⟩ := sampleB_len hB
        have hny : n = y := c2 y hy.1 hy.2 e4
        have e3 : milli v = x := by
          rcases a3 with h | ⟨u, _, _, h, h'⟩
          · injection h with _ h; cases h
          · injection h' with h'; rw [h']; exact h
        refine hi ?_
        rw [hny]
        refine ⟨hB, ?_⟩
        unfold lineT
        rw [if_pos hB, e3, ← hjo]
        simp only [joined]
        rw [show Lib.itoa y = t from e4.symm]
        simp
      · refine .inl ⟨?_, ?_⟩
        · rw [hspec, if_neg hsx]
        · rw [himpl, if_neg hi]
  · refine .inl ⟨?_, ?_⟩
    · unfold spec_ParseSample.f
      rw [B_size]
      by_cases h60 : (s.length : Int) > 60
      · rw [if_pos h60]; rfl
      · rw [if_neg h60, hsp]
        simp only [Option.bind_some, List.length_map]
        rw [if_neg (by omega)]
        rfl
    · unfold impl_ParseSample.f
      rw [him]
      simp only [Option.bind_some, List.length_map]
      rw [if_neg (by rw [beq_iff_eq]; omega)]
      rfl
end Go.Proofs.YtjelbcdloocacaaGreatDoor.PureSample
