/-
The program's MilliText and the reference's write the same text, for every int; l01Num writes the decimal numeral of every int.
Conditions: none.
-/
import Derived.Test.YtjelbcdloocacaaGreatDoorSGiven
import Derived.Lib.Strings
import Derived.Lib.ItoaNum
import Derived.Test.YtjelbcdloocacaaGreatDoorSQAx1
import Derived.Test.YtjelbcdloocacaaGreatDoorSQAx2
namespace Go.Proofs.YtjelbcdloocacaaGreatDoor.PureMilli
open Go Go.RowKit Go.Proofs.YtjelbcdloocacaaGreatDoor.QA Go.Proofs.YtjelbcdloocacaaGreatDoor.Given Go.Proofs.YtjelbcdloocacaaGreatDoorW.PrintWords Go.Proofs.YtjelbcdloocacaaGreatDoorW.PrintLast Go.Proofs.YtjelbcdloocacaaGreatDoorW.PrintMore
theorem wi (x : Int) (h1 : -9223372036854775808 ≤ x) (h2 : x ≤ 9223372036854775807) : wrap64 x = x := by unfold wrap64; omega
def B (l : List UInt8) : ByteArray := ⟨l.toArray⟩
theorem B_size (l : List UInt8) : (B l).size = l.length := by simp [B, ByteArray.size]
theorem B_data (l : List UInt8) : (B l).data.toList = l := by simp [B]
theorem B_toList (l : List UInt8) : (B l).toList = l := by rw [Lib.toList_data, B_data]
theorem B_of (s : ByteArray) : s = B s.data.toList := (Lib.mk_data s).symm
theorem B_app (l m : List UInt8) : B l ++ B m = B (l ++ m) := by
  refine (Lib.mk_data _).symm.trans ?_
  rw [ByteArray.data_append, Array.toList_append, B_data, B_data]
  rfl
theorem B_ext (l : List UInt8) (i j : Nat) : (B l).extract i j = B ((l.drop i).take (j - i)) := by
  rw [Lib.extract_eq, B_data]
  rfl
theorem B_bt (l : List UInt8) (i : Nat) (c : UInt8) (h : l[i]? = some c) : bt (B l) (i : Int) = (c.toNat : Int) := by
  obtain ⟨hi, hc⟩ := List.getElem?_eq_some_iff.1 h
  unfold bt
  rw [dif_pos (by rw [B_size]; omega)]
  have : (B l)[(i : Int).toNat]'(by rw [B_size]; omega) = l[i] := by simp [B, ByteArray.getElem_eq_getElem_data]
  rw [this, hc]
theorem B_nums (l : List Int) : strOfNums l = B (l.map fun n => UInt8.ofNat n.toNat) := rfl
theorem B_inj {l m : List UInt8} (h : B l = B m) : l = m := by
  have := congrArg (fun s : ByteArray => s.data.toList) h
  simpa [B_data] using this
/-- The digits of a number, none for 0. -/
def dig (n : Nat) : List UInt8 := if n = 0 then [] else Lib.decDigits n
theorem dig_step (n : Nat) (h : n ≠ 0) : dig n = dig (n / 10) ++ [UInt8.ofNat (48 + n % 10)] := by
  unfold dig
  rw [if_neg h]
  by_cases h10 : n < 10
  · rw [if_pos (by omega), Lib.decDigits_one h10, Nat.mod_eq_of_lt h10]; rfl
  · rw [if_neg (by omega), Lib.decDigits, dif_neg h10]
theorem byte_of (d : Int) (h0 : 0 ≤ d) (h1 : d ≤ 9) : UInt8.ofNat ((wrap64 (48 + d)) % 256).toNat = UInt8.ofNat (48 + d.toNat) := by
  rw [wi (48 + d) (by omega) (by omega)]
  congr 1
  omega
theorem num_l0 (d : Nat) : ∀ (x : Int) (acc : List UInt8) (neg : Bool) (k : Nat), x.natAbs < 10 ^ d → d < k → -9223372036854775808 ≤ x → x ≤ 9223372036854775807 → acc.length + d ≤ 1000 →
    spec_l01Num.l0 k x (B acc) neg = some (B ((if neg = true then [45] else []) ++ (dig x.natAbs ++ acc))) := by
  induction d with
  | zero =>
    intro x acc neg k hx hk _ _ hl
    obtain ⟨k, rfl⟩ : ∃ m, k = m + 1 := ⟨k - 1, by omega⟩
    obtain rfl : x = 0 := by simp at hx; omega
    simp only [spec_l01Num.l0, if_true]
    cases neg
    · rw [if_neg (by decide)]; rfl
    · rw [if_pos rfl, if_pos (by rw [B_size]; omega)]
      exact congrArg some (B_app [45] acc)
  | succ d ih =>
    intro x acc neg k hx hk h1 h2 hl
    obtain ⟨k, rfl⟩ : ∃ m, k = m + 1 := ⟨k - 1, by omega⟩
    simp only [spec_l01Num.l0]
    by_cases hx0 : x = 0
    · subst hx0
      rw [if_pos rfl]
      cases neg
      · rw [if_neg (by decide)]; rfl
      · rw [if_pos rfl, if_pos (by rw [B_size]; omega)]
        exact congrArg some (B_app [45] acc)
    · rw [if_neg hx0]
      have hm : (Int.tmod x 10).natAbs = x.natAbs % 10 := Int.natAbs_tmod x 10
      have hq : (Int.tdiv x 10).natAbs = x.natAbs / 10 := Int.natAbs_tdiv x 10
      have hs : 0 ≤ x → 0 ≤ Int.tmod x 10 := fun h => Int.tmod_nonneg 10 h
      have hlt : x.natAbs / 10 < 10 ^ d := by
        rw [Nat.pow_succ] at hx
        omega
      rw [wi (Int.tdiv x 10) (by omega) (by omega)]
      have key : ∀ acc' : List UInt8, acc' = UInt8.ofNat (48 + x.natAbs % 10) :: acc → spec_l01Num.l0 k (Int.tdiv x 10) (B acc') neg = some (B ((if neg = true then [45] else []) ++ (dig x.natAbs ++ acc))) := by
        intro acc' e
        rw [ih (Int.tdiv x 10) acc' neg k (by omega) (by omega) (by omega) (by omega) (by rw [e, List.length_cons]; omega), hq, e, dig_step x.natAbs (by omega)]
        simp
      by_cases hneg : Int.tmod x 10 < 0
      · rw [if_pos hneg, wi (-(Int.tmod x 10)) (by omega) (by omega)]
        simp only [Option.bind_some, B_nums, List.map_cons, List.map_nil]
        rw [byte_of (-(Int.tmod x 10)) (by omega) (by omega), if_pos (by rw [B_size, B_size]; simp; omega), B_app]
        refine key _ ?_
        rw [show (-(Int.tmod x 10)).toNat = x.natAbs % 10 from by omega]; rfl
      · rw [if_neg hneg]
        simp only [Option.bind_some, B_nums, List.map_cons, List.map_nil]
        rw [byte_of (Int.tmod x 10) (by omega) (by omega), if_pos (by rw [B_size, B_size]; simp; omega), B_app]
        refine key _ ?_
        rw [show (Int.tmod x 10).toNat = x.natAbs % 10 from by omega]; rfl
theorem num_some (x : Int) (k : Nat) (hk : 20 ≤ k) (h1 : -9223372036854775808 ≤ x) (h2 : x ≤ 9223372036854775807) : spec_l01Num.f k x = some (B (Lib.itoa x)) := by
  unfold spec_l01Num.f Lib.itoa
  by_cases h0 : x = 0
  · subst h0
    rw [if_pos rfl, if_neg (by decide), show (0 : Int).toNat = 0 from rfl, Lib.decDigits_one (by decide)]; rfl
  · rw [if_neg h0]
    have hlt : x.natAbs < 10 ^ 19 := by
      have : (10 : Nat) ^ 19 = 10000000000000000000 := by decide
      omega
    have := num_l0 19 x [] (decide (x < 0)) k hlt (by omega) h1 h2 (by simp)
    rw [show (⟨#[]⟩ : ByteArray) = B [] from rfl, this]
    rw [show dig x.natAbs = Lib.decDigits x.natAbs from by unfold dig; rw [if_neg (by omega)], List.append_nil]
    by_cases hneg : x < 0
    · rw [if_pos (by simpa using hneg), if_pos hneg]; rfl
    · rw [if_neg (by simpa using hneg), if_neg hneg, show x.natAbs = x.toNat from by omega]; rfl
theorem itoa_len (x : Int) (h1 : -9223372036854775808 ≤ x) (h2 : x ≤ 9223372036854775807) : (Lib.itoa x).length ≤ 20 := by
  have hd : ∀ (d n : Nat), n < 10 ^ d → (dig n).length ≤ d := by
    intro d
    induction d with
    | zero => intro n h; obtain rfl : n = 0 := by simpa using h
              simp [dig]
    | succ d ih =>
      intro n h
      by_cases h0 : n = 0
      · subst h0; simp [dig]
      · rw [dig_step n h0, List.length_append]
        have := ih (n / 10) (by rw [Nat.pow_succ] at h; omega)
        simp only [List.length_cons, List.length_nil]
        omega
  have h19 : (10 : Nat) ^ 19 = 10000000000000000000 := by decide
  unfold Lib.itoa
  have hs : ∀ n, n < 10 ^ 19 → (Lib.decDigits n).length ≤ 19 := by
    intro n hn
    by_cases h0 : n = 0
    · subst h0; rw [Lib.decDigits_one (by decide)]; decide
    · have := hd 19 n hn
      unfold dig at this
      rw [if_neg h0] at this
      exact this
  by_cases hneg : x < 0
  · rw [if_pos hneg, List.length_cons]
    have := hs x.natAbs (by omega)
    omega
  · rw [if_neg hneg]
    have := hs x.toNat (by omega)
    omega
theorem value_spec (v : Int) : spec_l01Value.f v = some (decide (-1000000000 ≤ v ∧ v ≤ 1000000000)) := by
  unfold spec_l01Value.f spec_l01In.f
  by_cases h : -1000000000 ≤ v <;> simp [h]
theorem value_impl (v : Int) : impl_isValue.f v = some (decide (-1000000000 ≤ v ∧ v ≤ 1000000000)) := by
  unfold impl_isValue.f impl_in.f
  by_cases h : -1000000000 ≤ v <;> simp [h]
/-- The three digits of a number below 1000. -/
def three (f : Nat) : List UInt8 := [UInt8.ofNat (48 + f / 100), UInt8.ofNat (48 + f / 10 % 10), UInt8.ofNat (48 + f % 10)]
/-- What stands behind the whole number. -/
def frac (f : Nat) : List UInt8 := if f = 0 then [] else 46 :: Lib.trimRightB (three f) 48
/-- The text of thousandths. -/
def milli (v : Int) : List UInt8 := if -1000000000 ≤ v ∧ v ≤ 1000000000 then (if v < 0 then [45] else []) ++ Lib.decDigits (v.natAbs / 1000) ++ frac (v.natAbs % 1000) else []
theorem byte_ne (d : Nat) (h : d ≤ 9) (h0 : d ≠ 0) : (UInt8.ofNat (48 + d) == (48 : UInt8)) = false := by
  have : ∀ d : Fin 10, d.val ≠ 0 → (UInt8.ofNat (48 + d.val) == (48 : UInt8)) = false := by decide
  exact this ⟨d, by omega⟩ h0
theorem digits_spec (f : Nat) (h0 : f ≠ 0) (h1 : f < 1000) (out : List UInt8) (ho : out.length ≤ 1000) (k : Nat) (hk : 4 ≤ k) :
    spec_MilliText.l0 k (B out) [(48 + f / 100 : Int), (48 + f / 10 % 10 : Int), (48 + f % 10 : Int)] 3 = some (B (out ++ (46 :: Lib.trimRightB (three f) 48))) := by
  obtain ⟨k, rfl⟩ : ∃ m, k = m + 4 := ⟨k - 4, by omega⟩
  have e1 : UInt8.ofNat ((48 : Int) + (f : Int) / 100).toNat = UInt8.ofNat (48 + f / 100) := by congr 1
  have e2 : UInt8.ofNat ((48 : Int) + (f : Int) / 10 % 10).toNat = UInt8.ofNat (48 + f / 10 % 10) := by congr 1
  have e3 : UInt8.ofNat ((48 : Int) + (f : Int) % 10).toNat = UInt8.ofNat (48 + f % 10) := by congr 1
  have hsz : (B out).size + 1 ≤ 9223372036854775807 := by rw [B_size]; omega
  have hdot : B out ++ (⟨#[46]⟩ : ByteArray) = B (out ++ [46]) := B_app out [46]
  simp only [spec_MilliText.l0]
  rw [show wrap64 ((3 : Int) - 1) = 2 from by unfold wrap64; omega, if_pos (by decide), if_pos (by simp)]
  by_cases c3 : f % 10 = 0
  · rw [if_pos (by simp [rd]; omega)]
    rw [show wrap64 ((2 : Int) - 1) = 1 from by unfold wrap64; omega, if_pos (by decide), if_pos (by simp)]
    by_cases c2 : f / 10 % 10 = 0
    · rw [if_pos (by simp [rd]; omega)]
      rw [show wrap64 ((1 : Int) - 1) = 0 from by unfold wrap64; omega, if_pos (by decide), if_pos (by simp)]
      rw [if_neg (by simp [rd]; omega), if_pos hsz, if_pos (by decide), if_pos (by simp)]
      simp only [Option.bind_some, B_nums, hdot]
      rw [if_pos (by rw [B_size, B_size]; simp; omega), B_app]
      simp only [three, Lib.trimRightB, List.reverse_cons, List.reverse_nil, List.nil_append, List.cons_append, c3, c2]
      rw [List.dropWhile_cons_of_pos (by decide), List.dropWhile_cons_of_pos (by decide), List.dropWhile_cons_of_neg (by rw [byte_ne (f / 100) (by omega) (by omega)]; decide)]
      simp [e1]
    · rw [if_neg (by simp [rd]; omega), if_pos hsz, if_pos (by decide), if_pos (by simp)]
      simp only [Option.bind_some, B_nums, hdot]
      rw [if_pos (by rw [B_size, B_size]; simp; omega), B_app]
      simp only [three, Lib.trimRightB, List.reverse_cons, List.reverse_nil, List.nil_append, List.cons_append, c3]
      rw [List.dropWhile_cons_of_pos (by decide), List.dropWhile_cons_of_neg (by rw [byte_ne (f / 10 % 10) (by omega) c2]; decide)]
      simp [e1, e2]
  · rw [if_neg (by simp [rd]; omega), if_pos hsz, if_pos (by decide), if_pos (by simp)]
    simp only [Option.bind_some, B_nums, hdot]
    rw [if_pos (by rw [B_size, B_size]; simp; omega), B_app]
    simp only [three, Lib.trimRightB, List.reverse_cons, List.reverse_nil, List.nil_append, List.cons_append]
    rw [List.dropWhile_cons_of_neg (by rw [byte_ne (f % 10) (by omega) c3]; decide)]
    simp [e1, e2, e3]
theorem thousand (f : Nat) (h : f < 1000) : Lib.itoa (1000 + (f : Int)) = 49 :: three f := by
  unfold Lib.itoa three
  rw [if_neg (by omega), show ((1000 : Int) + (f : Int)).toNat = 1000 + f from by omega]
  rw [Lib.decDigits, dif_neg (by omega), Lib.decDigits, dif_neg (by omega), Lib.decDigits, dif_neg (by omega), Lib.decDigits_one (by omega)]
  have a1 : (1000 + f) / 10 / 10 / 10 = 1 := by omega
  have a2 : (1000 + f) / 10 / 10 % 10 = f / 100 := by omega
  have a3 : (1000 + f) / 10 % 10 = f / 10 % 10 := by omega
  have a4 : (1000 + f) % 10 = f % 10 := by omega
  rw [a1, a2, a3, a4]
  rfl
/-- The text of a value that is not negative, behind a sign. -/
theorem milli_spec_j (x : Int) (out : List UInt8) (hx0 : 0 ≤ x) (hx1 : x ≤ 1000000000) (ho : out.length ≤ 1) (k : Nat) (hk : 30 ≤ k) :
    spec_MilliText.j0 k x (B out) = some (B (out ++ Lib.decDigits (x.natAbs / 1000) ++ frac (x.natAbs % 1000))) := by
  obtain ⟨k, rfl⟩ : ∃ m, k = m + 1 := ⟨k - 1, by omega⟩
  obtain ⟨n, rfl⟩ : ∃ n : Nat, x = n := ⟨x.toNat, by omega⟩
  have hd : Int.tdiv (n : Int) 1000 = ((n / 1000 : Nat) : Int) := by rw [Int.tdiv_eq_ediv_of_nonneg (by omega)]; omega
  have hm : Int.tmod (n : Int) 1000 = ((n % 1000 : Nat) : Int) := by rw [Int.tmod_eq_emod_of_nonneg (by omega)]; omega
  have hm1 : Int.tdiv ((n % 1000 : Nat) : Int) 100 = ((n % 1000 / 100 : Nat) : Int) := by rw [Int.tdiv_eq_ediv_of_nonneg (by omega)]; omega
  have hm2 : Int.tdiv (Int.tmod (n : Int) 100) 10 = ((n % 1000 / 10 % 10 : Nat) : Int) := by rw [Int.tmod_eq_emod_of_nonneg (by omega), Int.tdiv_eq_ediv_of_nonneg (by omega)]; omega
  have hm3 : Int.tmod (n : Int) 10 = ((n % 1000 % 10 : Nat) : Int) := by rw [Int.tmod_eq_emod_of_nonneg (by omega)]; omega
  have hi : Lib.itoa ((n / 1000 : Nat) : Int) = Lib.decDigits (n / 1000) := by
    unfold Lib.itoa
    rw [if_neg (by omega), show (((n / 1000 : Nat) : Int)).toNat = n / 1000 from by omega]
  have hlen := itoa_len ((n / 1000 : Nat) : Int) (by omega) (by omega)
  rw [hi] at hlen
  simp only [spec_MilliText.j0, Int.natAbs_natCast]
  rw [hd, hm, hm1, hm2, hm3, wi ((n / 1000 : Nat) : Int) (by omega) (by omega), num_some _ k (by omega) (by omega) (by omega), hi]
  simp only [Option.bind_some]
  rw [if_pos (by rw [B_size, B_size]; omega), B_app]
  unfold frac
  by_cases h0 : n % 1000 = 0
  · rw [if_pos (by omega), if_pos h0, List.append_nil]
  · rw [if_neg (by omega), if_neg h0]
    rw [wi (((n % 1000 / 100 : Nat)) : Int) (by omega) (by omega), wi (((n % 1000 / 10 % 10 : Nat)) : Int) (by omega) (by omega)]
    rw [wi (48 + ((n % 1000 / 100 : Nat) : Int)) (by omega) (by omega), wi (48 + ((n % 1000 / 10 % 10 : Nat) : Int)) (by omega) (by omega), wi (48 + ((n % 1000 % 10 : Nat) : Int)) (by omega) (by omega)]
    have d1 : (48 + ((n % 1000 / 100 : Nat) : Int)) % 256 = 48 + ((n % 1000 : Nat) : Int) / 100 := by omega
    have d2 : (48 + ((n % 1000 / 10 % 10 : Nat) : Int)) % 256 = 48 + ((n % 1000 : Nat) : Int) / 10 % 10 := by omega
    have d3 : (48 + ((n % 1000 % 10 : Nat) : Int)) % 256 = 48 + ((n % 1000 : Nat) : Int) % 10 := by omega
    rw [d1, d2, d3, digits_spec (n % 1000) h0 (by omega) (out ++ Lib.decDigits (n / 1000)) (by rw [List.length_append]; omega) k (by omega)]
theorem milli_impl_j (x : Int) (out : List UInt8) (hx0 : 0 ≤ x) (hx1 : x ≤ 1000000000) (ho : out.length ≤ 1) (k : Nat) (hk : 1 ≤ k) :
    impl_MilliText.j0 k x (B out) = some (B (out ++ Lib.decDigits (x.natAbs / 1000) ++ frac (x.natAbs % 1000))) := by
  obtain ⟨k, rfl⟩ : ∃ m, k = m + 1 := ⟨k - 1, by omega⟩
  obtain ⟨n, rfl⟩ : ∃ n : Nat, x = n := ⟨x.toNat, by omega⟩
  have hd : Int.tdiv (n : Int) 1000 = ((n / 1000 : Nat) : Int) := by rw [Int.tdiv_eq_ediv_of_nonneg (by omega)]; omega
  have hm : Int.tmod (n : Int) 1000 = ((n % 1000 : Nat) : Int) := by rw [Int.tmod_eq_emod_of_nonneg (by omega)]; omega
  have hi : Lib.itoa ((n / 1000 : Nat) : Int) = Lib.decDigits (n / 1000) := by
    unfold Lib.itoa
    rw [if_neg (by omega), show (((n / 1000 : Nat) : Int)).toNat = n / 1000 from by omega]
  have hlen := itoa_len ((n / 1000 : Nat) : Int) (by omega) (by omega)
  rw [hi] at hlen
  have f1 : strconv_Itoa.f ((n / 1000 : Nat) : Int) = some (B (Lib.decDigits (n / 1000))) := by
    unfold strconv_Itoa.f
    rw [if_pos (by omega), hi]
    rfl
  simp only [impl_MilliText.j0, Int.natAbs_natCast]
  rw [hd, hm, wi ((n / 1000 : Nat) : Int) (by omega) (by omega), f1]
  simp only [Option.bind_some]
  rw [if_pos (by rw [B_size, B_size]; omega), B_app]
  unfold frac
  by_cases h0 : n % 1000 = 0
  · rw [if_pos (by omega), if_pos h0, List.append_nil]
  · rw [if_neg (by omega), if_neg h0, if_pos (by rw [B_size, List.length_append]; omega), wi (1000 + ((n % 1000 : Nat) : Int)) (by omega) (by omega)]
    have f2 : strconv_Itoa.f (1000 + ((n % 1000 : Nat) : Int)) = some (B (49 :: three (n % 1000))) := by
      unfold strconv_Itoa.f
      rw [if_pos (by omega), thousand (n % 1000) (by omega)]
      rfl
    rw [f2]
    simp only [Option.bind_some]
    rw [if_pos (by rw [B_size]; simp [three]), B_ext, B_size]
    have f3 : strings_TrimRight.f (B ((List.drop 1 (49 :: three (n % 1000))).take ((49 :: three (n % 1000)).length - 1))) (⟨#[48]⟩ : ByteArray) = some (B (Lib.trimRightB (three (n % 1000)) 48)) := by
      unfold strings_TrimRight.f
      rw [if_pos ⟨rfl, by decide, by rw [B_size]; simp [three]⟩]
      rw [B_data, show UInt8.ofNat (bt (⟨#[48]⟩ : ByteArray) 0).toNat = 48 from by decide]
      simp [three, B]
    rw [f3]
    simp only [Option.bind_some]
    have hdot : ∀ l, B l ++ (⟨#[46]⟩ : ByteArray) = B (l ++ [46]) := fun l => B_app l [46]
    have htl : (Lib.trimRightB (three (n % 1000)) 48).length ≤ 3 := by
      unfold Lib.trimRightB
      rw [List.length_reverse]
      exact Nat.le_trans (List.dropWhile_sublist _).length_le (by simp [three])
    rw [hdot, if_pos (by rw [B_size, B_size]; simp; omega), B_app]
    simp
theorem milli_spec (v : Int) (k : Nat) (hk : 30 ≤ k) : spec_MilliText.f k v = some (B (milli v)) := by
  unfold spec_MilliText.f milli
  rw [value_spec]
  simp only [Option.bind_some]
  by_cases hv : -1000000000 ≤ v ∧ v ≤ 1000000000
  · rw [if_pos (by simpa using hv), if_pos hv]
    by_cases hn : v < 0
    · rw [if_pos hn, if_pos hn, wi (-v) (by omega) (by omega)]
      have := milli_spec_j (-v) [45] (by omega) (by omega) (by simp) k hk
      rw [Int.natAbs_neg] at this
      exact this
    · rw [if_neg hn, if_neg hn]
      exact milli_spec_j v [] (by omega) (by omega) (by simp) k hk
  · rw [if_neg (by simpa using hv), if_neg hv]; rfl
theorem milli_impl (v : Int) (k : Nat) (hk : 1 ≤ k) : impl_MilliText.f k v = some (B (milli v)) := by
  unfold impl_MilliText.f milli
  rw [value_impl]
  simp only [Option.bind_some]
  by_cases hv : -1000000000 ≤ v ∧ v ≤ 1000000000
  · rw [if_pos (by simpa using hv), if_pos hv]
    by_cases hn : v < 0
    · rw [if_pos hn, if_pos hn, wi (-v) (by omega) (by omega)]
      have := milli_impl_j (-v) [45] (by omega) (by omega) (by simp) k hk
      rw [Int.natAbs_neg] at this
      exact this
    · rw [if_neg hn, if_neg hn]
      exact milli_impl_j v [] (by omega) (by omega) (by simp) k hk
  · rw [if_neg (by simpa using hv), if_neg hv]; rfl
end Go.Proofs.YtjelbcdloocacaaGreatDoor.PureMilli
