/-
The program's SampleLine writes a sample's line; what a sample is.
Conditions: the strings have at most 2^20 bytes where a theorem says so.
-/
import Derived.Lib.Join
import Derived.Test.YtjelbcdloocacaaGreatDoorSQAx1
import Derived.Test.YtjelbcdloocacaaGreatDoorSQAx2
import Derived.Test.YtjelbcdloocacaaGreatDoorSQAx3
import Derived.Test.YtjelbcdloocacaaGreatDoorSPureMilli
namespace Go.Proofs.YtjelbcdloocacaaGreatDoor.PureLine
open Go Go.RowKit Go.Proofs.YtjelbcdloocacaaGreatDoor.QA Go.Proofs.YtjelbcdloocacaaGreatDoor.Given Go.Proofs.YtjelbcdloocacaaGreatDoor.PureMilli Go.Proofs.YtjelbcdloocacaaGreatDoorW.PrintWords Go.Proofs.YtjelbcdloocacaaGreatDoorW.PrintLast Go.Proofs.YtjelbcdloocacaaGreatDoorW.PrintMore
/-- The bytes of a name. -/
def okb (c : UInt8) : Bool := decide (97 ≤ c.toNat ∧ c.toNat ≤ 122) || decide (48 ≤ c.toNat ∧ c.toNat ≤ 57)
def nameB (l : List UInt8) : Bool := l.all okb && decide (1 ≤ l.length ∧ l.length ≤ 12)
theorem wi_succ (i : Nat) (h : i < 4000000000000000000) : wrap64 ((i : Int) + 1) = ((i + 1 : Nat) : Int) := by
  rw [wi _ (by omega) (by omega)]
  omega
theorem in_some (n : Int) : spec_l01In.f n 1 12 = some (decide (1 ≤ n ∧ n ≤ 12)) := by
  unfold spec_l01In.f
  by_cases h : 1 ≤ n
  · rw [if_pos h]; simp [h]
  · rw [if_neg h]; simp [h]
theorem in_some' (n : Int) : impl_in.f n 1 12 = some (decide (1 ≤ n ∧ n ≤ 12)) := in_some n
theorem drop_at (l : List UInt8) (i : Nat) (h : i < l.length) : ∃ c, l[i]? = some c ∧ l.drop i = c :: l.drop (i + 1) :=
  ⟨l[i], List.getElem?_eq_getElem h, List.drop_eq_getElem_cons h⟩
theorem name_loops (l : List UInt8) (hl : l.length ≤ 1048576) (d : Nat) : ∀ (k i : Nat), i ≤ l.length → l.length - i = d → d < k →
    spec_NameOk.l0 k (B l) (i : Int) = some ((l.drop i).all okb) ∧ impl_NameOk.l0 k (B l) (l.length : Int) (i : Int) = some ((l.drop i).all okb && decide (1 ≤ l.length ∧ l.length ≤ 12)) := by
  induction d with
  | zero =>
    intro k i h1 hd hk
    obtain ⟨k, rfl⟩ : ∃ m, k = m + 1 := ⟨k - 1, by omega⟩
    rw [List.drop_eq_nil_of_le (by omega)]
    constructor
    · simp only [spec_NameOk.l0, B_size]; rw [if_neg (by omega)]; rfl
    · simp only [impl_NameOk.l0, B_size]; rw [if_neg (by omega), in_some']; simp only [Option.bind_some, List.all_nil, Bool.true_and]; congr 2; exact propext (by omega)
  | succ d ih =>
    intro k i h1 hd hk
    obtain ⟨k, rfl⟩ : ∃ m, k = m + 1 := ⟨k - 1, by omega⟩
    obtain ⟨c, hc, hdr⟩ := drop_at l i (by omega)
    obtain ⟨e1, e2⟩ := ih k (i + 1) (by omega) (by omega) (by omega)
    have hb := B_bt l i c hc
    have ho : okb c = if (c.toNat : Int) < 97 then (if (c.toNat : Int) < 48 then false else if (c.toNat : Int) > 57 then false else true) else if (c.toNat : Int) > 122 then (if (c.toNat : Int) < 48 then false else if (c.toNat : Int) > 57 then false else true) else true := by
      unfold okb
      rw [Bool.eq_iff_iff]
      simp only [Bool.or_eq_true, decide_eq_true_eq]
      split <;> split <;> (try split) <;> simp <;> omega
    constructor
    · simp only [spec_NameOk.l0, B_size]
      rw [if_pos (by omega), if_pos (by omega), wi_succ i (by omega), hb, e1, hdr, List.all_cons, ho]
      by_cases c1 : (c.toNat : Int) < 97 <;> by_cases c2 : (c.toNat : Int) < 48 <;> by_cases c3 : (c.toNat : Int) > 57 <;> by_cases c4 : (c.toNat : Int) > 122 <;> simp only [c1, c2, c3, c4, if_true, if_false, Bool.false_and, Bool.true_and]
    · simp only [impl_NameOk.l0, B_size]
      rw [if_pos (by omega), if_pos (by omega), if_pos (by omega), wi_succ i (by omega), hb, e2, hdr, List.all_cons, ho]
      by_cases c1 : (c.toNat : Int) < 97 <;> by_cases c2 : (c.toNat : Int) < 48 <;> by_cases c3 : (c.toNat : Int) > 57 <;> by_cases c4 : (c.toNat : Int) > 122 <;> simp only [c1, c2, c3, c4, if_true, if_false, Bool.false_and, Bool.true_and]
theorem name_some (l : List UInt8) (hl : l.length ≤ 1048576) (k : Nat) (hk : l.length < k) : spec_NameOk.f k (B l) = some (nameB l) ∧ impl_NameOk.f k (B l) = some (nameB l) := by
  obtain ⟨e1, e2⟩ := name_loops l hl l.length k 0 (by omega) (by omega) hk
  unfold spec_NameOk.f impl_NameOk.f nameB
  rw [in_some, B_size]
  constructor
  · by_cases c : 1 ≤ l.length ∧ l.length ≤ 12
    · have c' : 1 ≤ (l.length : Int) ∧ (l.length : Int) ≤ 12 := by omega
      simp only [c', and_self, decide_true, Option.bind_some, if_true]
      rw [show (0 : Int) = ((0 : Nat) : Int) from rfl, e1]
      simp [c]
    · have c' : ¬ (1 ≤ (l.length : Int) ∧ (l.length : Int) ≤ 12) := by omega
      simp only [c', decide_false, Option.bind_some]
      simp [c]
  · rw [show (0 : Int) = ((0 : Nat) : Int) from rfl, e2]
    simp
theorem amt (a : Int) : spec_l01Amt.f a = some (decide (0 ≤ a ∧ a ≤ 1000000000)) := by
  unfold spec_l01Amt.f spec_l01In.f
  by_cases h : 0 ≤ a <;> simp [h]
theorem amt' (a : Int) : impl_isSize.f a = some (decide (0 ≤ a ∧ a ≤ 1000000000)) := by
  unfold impl_isSize.f impl_in.f
  by_cases h : 0 ≤ a <;> simp [h]
theorem tick (a : Int) : spec_l02Tick.f a = some (decide (0 ≤ a ∧ a ≤ 1000000000)) := amt a
theorem tick' (a : Int) : impl_isTick.f a = some (decide (0 ≤ a ∧ a ≤ 1000000000)) := amt' a
/-- Is it a sample? -/
def sampleB (p m : List UInt8) (v t : Int) : Bool := nameB p && (nameB m && (decide (0 ≤ v ∧ v ≤ 1000000000) && decide (0 ≤ t ∧ t ≤ 1000000000)))
theorem sample_some (p m : List UInt8) (v t : Int) (hp : p.length ≤ 1048576) (hm : m.length ≤ 1048576) (k : Nat) (hk : 1048576 < k) :
    spec_SampleOk.f k (B p) (B m) v t = some (sampleB p m v t) ∧ impl_SampleOk.f k (B p) (B m) v t = some (sampleB p m v t) := by
  obtain ⟨a1, a2⟩ := name_some p hp k (by omega)
  obtain ⟨b1, b2⟩ := name_some m hm k (by omega)
  unfold spec_SampleOk.f impl_SampleOk.f sampleB
  rw [a1, a2, b1, b2, amt, amt', tick, tick']
  cases nameB p
  · exact ⟨rfl, rfl⟩
  · cases nameB m
    · exact ⟨rfl, rfl⟩
    · by_cases hv : 0 ≤ v ∧ v ≤ 1000000000
      · constructor <;> simp [hv]
      · constructor <;> simp [hv]
/-- A sample's line. -/
def lineT (p m : List UInt8) (v t : Int) : List UInt8 := if sampleB p m v t = true then p ++ (32 :: m) ++ (32 :: milli v) ++ (32 :: Lib.itoa t) else []
theorem milli_len (v : Int) : (milli v).length ≤ 25 := by
  unfold milli
  by_cases h : -1000000000 ≤ v ∧ v ≤ 1000000000
  · rw [if_pos h]
    have h1 := itoa_len ((v.natAbs / 1000 : Nat) : Int) (by omega) (by omega)
    have hi : Lib.itoa ((v.natAbs / 1000 : Nat) : Int) = Lib.decDigits (v.natAbs / 1000) := by
      unfold Lib.itoa
      rw [if_neg (by omega), show (((v.natAbs / 1000 : Nat) : Int)).toNat = v.natAbs / 1000 from by omega]
    rw [hi] at h1
    have h2 : (frac (v.natAbs % 1000)).length ≤ 4 := by
      unfold frac
      split
      · simp
      · rw [List.length_cons]
        have : (Lib.trimRightB (three (v.natAbs % 1000)) 48).length ≤ 3 := by
          unfold Lib.trimRightB
          rw [List.length_reverse]
          exact Nat.le_trans (List.dropWhile_sublist _).length_le (by simp [three])
        omega
    have h3 : (if v < 0 then ([45] : List UInt8) else []).length ≤ 1 := by split <;> simp
    rw [List.length_append, List.length_append]
    omega
  · rw [if_neg h]; simp
theorem sampleB_len {p m : List UInt8} {v t : Int} (h : sampleB p m v t = true) : p.length ≤ 12 ∧ m.length ≤ 12 ∧ (0 ≤ v ∧ v ≤ 1000000000) ∧ (0 ≤ t ∧ t ≤ 1000000000) := by
  unfold sampleB nameB at h
  simp only [Bool.and_eq_true, decide_eq_true_eq] at h
  exact ⟨h.1.2.2, h.2.1.2.2, h.2.2.1, h.2.2.2⟩
theorem lineT_len (p m : List UInt8) (v t : Int) : (lineT p m v t).length ≤ 100 := by
  unfold lineT
  by_cases h : sampleB p m v t = true
  · rw [if_pos h]
    obtain ⟨h1, h2, _, h4⟩ := sampleB_len h
    have := milli_len v
    have := itoa_len t (by omega) (by omega)
    simp only [List.length_append, List.length_cons]
    omega
  · rw [if_neg h]; simp
theorem line_impl (p m : List UInt8) (v t : Int) (hp : p.length ≤ 1048576) (hm : m.length ≤ 1048576) (k : Nat) (hk : 1048576 < k) : impl_SampleLine.f k (B p) (B m) v t = some (B (lineT p m v t)) := by
  unfold impl_SampleLine.f lineT
  rw [(sample_some p m v t hp hm k hk).2]
  simp only [Option.bind_some]
  by_cases h : sampleB p m v t = true
  · obtain ⟨h1, h2, _, h4⟩ := sampleB_len h
    have h5 := milli_len v
    have h6 := itoa_len t (by omega) (by omega)
    rw [if_pos h, if_pos h, milli_impl v k (by omega)]
    have e1 : impl_number.f t = some (B (Lib.itoa t)) := by
      unfold impl_number.f strconv_Itoa.f
      rw [if_pos (by omega)]; rfl
    have hj : Lib.join ([B p, B m, B (milli v), B (Lib.itoa t)].map (·.data.toList)) (⟨#[32]⟩ : ByteArray).data.toList = p ++ (32 :: m) ++ (32 :: milli v) ++ (32 :: Lib.itoa t) := by
      simp only [List.map_cons, List.map_nil, B_data, Lib.join_cons, Lib.joinTail]
      simp
    have e2 : impl_words.f [B p, B m, B (milli v), B (Lib.itoa t)] = some (B (p ++ (32 :: m) ++ (32 :: milli v) ++ (32 :: Lib.itoa t))) := by
      unfold impl_words.f strings_Join.f
      rw [hj, if_pos (by simp only [List.length_append, List.length_cons, List.length_nil]; omega)]; rfl
    simp only [Option.bind_some, e1, e2]
  · rw [if_neg h, if_neg h]; rfl
end Go.Proofs.YtjelbcdloocacaaGreatDoor.PureLine
