/-
The program's ParseMilli and the reference's return the same, for every text: the value whose text it is, or none.
Conditions: the text has at most 2^20 bytes where a theorem says so.
-/
import Derived.Lib.AtoiTie
import Derived.Test.YtjelbcdloocacaaGreatDoorSQAx1
import Derived.Test.YtjelbcdloocacaaGreatDoorSQAx2
import Derived.Test.YtjelbcdloocacaaGreatDoorSHand
import Derived.Test.YtjelbcdloocacaaGreatDoorSPureMilli
namespace Go.Proofs.YtjelbcdloocacaaGreatDoor.PureParse
open Go Go.RowKit Go.Proofs.YtjelbcdloocacaaGreatDoor.QA Go.Proofs.YtjelbcdloocacaaGreatDoor.Hand Go.Proofs.YtjelbcdloocacaaGreatDoor.Given Go.Proofs.YtjelbcdloocacaaGreatDoor.PureMilli Go.Proofs.YtjelbcdloocacaaGreatDoorW.PrintWords Go.Proofs.YtjelbcdloocacaaGreatDoorW.PrintLast Go.Proofs.YtjelbcdloocacaaGreatDoorW.PrintMore
theorem wi_next (i : Nat) (h : i < 4000000000000000000) : wrap64 ((i : Int) + 1) = ((i + 1 : Nat) : Int) := by
  rw [wi _ (by omega) (by omega)]
  omega
theorem decFrom_app : ∀ (l m : List UInt8) (a : Nat), Lib.decFrom a (l ++ m) = (Lib.decFrom a l).bind fun b => Lib.decFrom b m
  | [], m, a => rfl
  | c :: r, m, a => by
    simp only [List.cons_append, Lib.decFrom]
    cases Lib.digitVal c with
    | none => rfl
    | some d => exact decFrom_app r m _
theorem digit_iff {c : UInt8} {d : Nat} (h : Lib.digitVal c = some d) : 48 ≤ c.toNat ∧ c.toNat ≤ 57 ∧ d = c.toNat - 48 := by
  unfold Lib.digitVal at h
  split at h
  · rename_i h'
    exact ⟨h'.1, h'.2, by injection h with h; exact h.symm⟩
  · cases h
theorem decFrom_ge : ∀ (l : List UInt8) (a n : Nat), Lib.decFrom a l = some n → a ≤ n
  | [], a, n, h => by
    simp only [Lib.decFrom, Option.some.injEq] at h
    omega
  | c :: r, a, n, h => by
    simp only [Lib.decFrom] at h
    cases hd : Lib.digitVal c with
    | none => rw [hd] at h; cases h
    | some d =>
      rw [hd] at h
      have := decFrom_ge r _ n h
      omega
theorem digit_of (d : Nat) (h : d ≤ 9) : Lib.digitVal (UInt8.ofNat (48 + d)) = some d := by
  have : ∀ d : Fin 10, Lib.digitVal (UInt8.ofNat (48 + d.val)) = some d.val := by decide
  exact this ⟨d, by omega⟩
theorem decFrom_dec (n : Nat) : Lib.decFrom 0 (Lib.decDigits n) = some n := by
  induction n using Nat.strongRecOn with
  | _ n ih =>
    by_cases h : n < 10
    · rw [Lib.decDigits_one h]
      simp only [Lib.decFrom, digit_of n (by omega)]
      congr 1
      omega
    · rw [Lib.decDigits, dif_neg h, decFrom_app, ih (n / 10) (by omega)]
      simp only [Option.bind_some, Lib.decFrom, digit_of (n % 10) (by omega)]
      congr 1
      omega
theorem dec_ne (n : Nat) : Lib.decDigits n ≠ [] := by
  rw [Lib.decDigits]
  split <;> simp
theorem dec_len : ∀ (d n : Nat), n < 10 ^ (d + 1) → (Lib.decDigits n).length ≤ d + 1 := by
  intro d
  induction d with
  | zero =>
    intro n h
    rw [Lib.decDigits_one (by simpa using h)]
    simp
  | succ d ih =>
    intro n h
    by_cases h10 : n < 10
    · rw [Lib.decDigits_one h10]; simp
    · rw [Lib.decDigits, dif_neg h10, List.length_append]
      have := ih (n / 10) (by rw [Nat.pow_succ] at h; omega)
      simp only [List.length_cons, List.length_nil]
      omega
theorem at_drop {s l : List UInt8} {c : UInt8} {i : Nat} (h : s.drop i = c :: l) : s[i]? = some c ∧ s.drop (i + 1) = l := by
  have h1 : (s.drop i)[0]? = some c := by rw [h]; rfl
  rw [List.getElem?_drop] at h1
  refine ⟨h1, ?_⟩
  have h2 : (s.drop i).drop 1 = l := by rw [h]; rfl
  rw [List.drop_drop] at h2
  exact h2
theorem pm_step (s : List UInt8) (hs : s.length ≤ 1000) (i : Nat) (c : UInt8) (hc : s[i]? = some c) (x : Nat) (hx : x ≤ 10000000000000000) (dot : Int) (h0 : 48 ≤ c.toNat) (h9 : c.toNat ≤ 57) (m : Nat) :
    spec_ParseMilli.l0 (m + 3) (B s) (x : Int) dot (i : Int) = spec_ParseMilli.l0 m (B s) ((x * 10 + (c.toNat - 48) : Nat) : Int) dot ((i + 1 : Nat) : Int) := by
  obtain ⟨hi, _⟩ := List.getElem?_eq_some_iff.1 hc
  have hb := B_bt s i c hc
  rw [spec_ParseMilli.l0, B_size, if_pos (by omega), if_pos (by omega), hb, if_neg (by omega), spec_ParseMilli.j1, if_neg (by simp), B_size, if_pos (by omega), if_pos (by omega), hb, if_neg (by omega), spec_ParseMilli.j2, if_neg (by simp), B_size, if_pos (by omega), if_pos (by omega), hb, if_pos (by omega), if_pos (by omega), wi_next i (by omega)]
  rw [wi (10 * (x : Int)) (by omega) (by omega), wi (c.toNat : Int) (by omega) (by omega), wi (10 * (x : Int) + (c.toNat : Int)) (by omega) (by omega), wi (10 * (x : Int) + (c.toNat : Int) - 48) (by omega) (by omega)]
  congr 1
  omega
theorem pm_digits (s : List UInt8) (hs : s.length ≤ 1000) : ∀ (l : List UInt8) (i x n : Nat) (rest : List UInt8) (dot : Int) (m : Nat), s.drop i = l ++ rest → Lib.decFrom x l = some n → n ≤ 10000000000000000 →
    spec_ParseMilli.l0 (m + 3 * l.length) (B s) (x : Int) dot (i : Int) = spec_ParseMilli.l0 m (B s) (n : Int) dot ((i + l.length : Nat) : Int)
  | [], i, x, n, rest, dot, m, _, hn, _ => by
    simp only [Lib.decFrom, Option.some.injEq] at hn
    subst hn
    rfl
  | c :: r, i, x, n, rest, dot, m, hd, hn, hle => by
    simp only [Lib.decFrom] at hn
    cases hv : Lib.digitVal c with
    | none => rw [hv] at hn; cases hn
    | some d =>
      rw [hv] at hn
      obtain ⟨h0, h9, rfl⟩ := digit_iff hv
      have hge := decFrom_ge r _ n hn
      obtain ⟨hc, hd'⟩ := at_drop (l := r ++ rest) hd
      rw [show m + 3 * (c :: r).length = m + 3 * r.length + 3 from by rw [List.length_cons]; omega, pm_step s hs i c hc x (by omega) dot h0 h9, pm_digits s hs r (i + 1) _ n rest dot m hd' hn hle]
      rw [List.length_cons]
      congr 2
      omega
theorem pm_sign (s : List UInt8) (hs : s.length ≤ 1000) (h : s[0]? = some 45) (m : Nat) : spec_ParseMilli.l0 (m + 2) (B s) 0 (-1) 0 = spec_ParseMilli.l0 m (B s) 0 (-1) 1 := by
  obtain ⟨hi, _⟩ := List.getElem?_eq_some_iff.1 h
  have hb := B_bt s 0 45 h
  rw [show (((0 : Nat) : Int)) = 0 from rfl] at hb
  rw [spec_ParseMilli.l0, B_size, if_pos (by omega), if_pos (by omega), hb, if_pos (by rfl), spec_ParseMilli.j1, if_pos (by rfl), wi (0 + 1) (by omega) (by omega)]
  rfl
theorem pm_dot (s : List UInt8) (hs : s.length ≤ 1000) (i : Nat) (h : s[i]? = some 46) (x : Int) (m : Nat) : spec_ParseMilli.l0 (m + 3) (B s) x (-1) (i : Int) = spec_ParseMilli.l0 m (B s) x (i : Int) ((i + 1 : Nat) : Int) := by
  obtain ⟨hi, _⟩ := List.getElem?_eq_some_iff.1 h
  have hb := B_bt s i 46 h
  rw [show (((46 : UInt8).toNat : Nat) : Int) = 46 from rfl] at hb
  rw [spec_ParseMilli.l0, B_size, if_pos (by omega), if_pos (by omega), hb, if_neg (by omega), spec_ParseMilli.j1, if_neg (by simp), B_size, if_pos (by omega), if_pos (by omega), hb, if_pos (by omega), spec_ParseMilli.j2, if_pos (by rfl), wi_next i (by omega)]
theorem pm_scale (s : List UInt8) (c : UInt8) (hc : s[0]? = some c) : ∀ (e x m : Nat), x * 10 ^ e ≤ 10000000000000000 → e ≤ 3 → spec_ParseMilli.l1 (m + e + 1) (B s) (x : Int) (3 - (e : Int)) = spec_ParseMilli.j5 m (B s) ((x * 10 ^ e : Nat) : Int) ((c.toNat : Int) == 45)
  | 0, x, m, hx, _ => by
    obtain ⟨hi, _⟩ := List.getElem?_eq_some_iff.1 hc
    have hb := B_bt s 0 c hc
    rw [show (((0 : Nat) : Int)) = 0 from rfl] at hb
    rw [spec_ParseMilli.l1, if_neg (by omega), B_size, if_pos (by omega), if_pos (by omega), hb, Nat.pow_zero, Nat.mul_one]
  | e + 1, x, m, hx, he => by
    have hp : 0 < 10 ^ e := Nat.pow_pos (by decide)
    have hx' : x * 10 * 10 ^ e = x * 10 ^ (e + 1) := by rw [Nat.pow_succ, Nat.mul_comm (10 ^ e), Nat.mul_assoc]
    have hxx : x * 10 ≤ x * 10 * 10 ^ e := Nat.le_mul_of_pos_right _ hp
    rw [show m + (e + 1) + 1 = (m + e + 1) + 1 from by omega, spec_ParseMilli.l1, if_pos (by omega), wi (10 * (x : Int)) (by omega) (by omega), wi (3 - ((e + 1 : Nat) : Int) + 1) (by omega) (by omega)]
    have := pm_scale s c hc e (x * 10) m (by omega) (by omega)
    rw [show (3 - ((e + 1 : Nat) : Int) + 1) = 3 - (e : Int) from by omega, show 10 * (x : Int) = ((x * 10 : Nat) : Int) from by omega, this, hx']
/-- What a reader may hand back: nothing, or the value whose text it is. -/
def Good (s : List UInt8) (r : Int × Bool) : Prop := r = (0, false) ∨ ∃ v : Int, -1000000000 ≤ v ∧ v ≤ 1000000000 ∧ milli v = s ∧ r = (v, true)
theorem milli_ne (v : Int) (h1 : -1000000000 ≤ v) (h2 : v ≤ 1000000000) : milli v ≠ [] := by
  unfold milli
  rw [if_pos ⟨h1, h2⟩]
  have := dec_ne (v.natAbs / 1000)
  simp [this]
theorem milli_in {v : Int} (h : milli v ≠ []) : -1000000000 ≤ v ∧ v ≤ 1000000000 := by
  by_cases hv : -1000000000 ≤ v ∧ v ≤ 1000000000
  · exact hv
  · unfold milli at h
    rw [if_neg hv] at h
    exact absurd rfl h
theorem pm_j5 (s : List UInt8) (x : Int) (b : Bool) (k : Nat) (hk : 31 ≤ k) : ∃ r, spec_ParseMilli.j5 k (B s) x b = some r ∧ Good s r := by
  obtain ⟨k, rfl⟩ : ∃ m, k = m + 1 := ⟨k - 1, by omega⟩
  have key : ∀ y : Int, ∃ r, ((spec_MilliText.f k y).bind fun t118 => (if t118.toList = (B s).toList then (if (B s).toList = ([] : List UInt8) then (some ((0 : Int), false)) else (some (y, true))) else (some (0, false)))) = some r ∧ Good s r := by
    intro y
    rw [milli_spec y k (by omega)]
    simp only [Option.bind_some, B_toList]
    by_cases h1 : milli y = s
    · rw [if_pos h1]
      by_cases h2 : s = []
      · rw [if_pos h2]; exact ⟨_, rfl, .inl rfl⟩
      · rw [if_neg h2]
        obtain ⟨a, b⟩ := milli_in (v := y) (by rw [h1]; exact h2)
        exact ⟨_, rfl, .inr ⟨y, a, b, h1, rfl⟩⟩
    · rw [if_neg h1]; exact ⟨_, rfl, .inl rfl⟩
  rw [spec_ParseMilli.j5]
  cases b
  · rw [if_neg (by simp)]; exact key x
  · rw [if_pos rfl]; exact key _
theorem pm_l1 (s : List UInt8) : ∀ (n : Nat) (x x7 : Int) (k : Nat), 0 ≤ x7 → 3 - x7 ≤ n → n + 33 ≤ k → ∃ r, spec_ParseMilli.l1 k (B s) x x7 = some r ∧ Good s r
  | 0, x, x7, k, h0, h, hk => by
    obtain ⟨k, rfl⟩ : ∃ m, k = m + 1 := ⟨k - 1, by omega⟩
    rw [spec_ParseMilli.l1, if_neg (by omega), B_size]
    by_cases hs : (s.length : Int) > 0
    · rw [if_pos hs, if_pos hs]; exact pm_j5 s x _ k (by omega)
    · rw [if_neg hs]; exact pm_j5 s x _ k (by omega)
  | n + 1, x, x7, k, h0, h, hk => by
    obtain ⟨k, rfl⟩ : ∃ m, k = m + 1 := ⟨k - 1, by omega⟩
    rw [spec_ParseMilli.l1]
    by_cases h3 : x7 < 3
    · rw [if_pos h3, wi (x7 + 1) (by omega) (by omega)]
      exact pm_l1 s n _ (x7 + 1) k (by omega) (by omega) (by omega)
    · rw [if_neg h3, B_size]
      by_cases hs : (s.length : Int) > 0
      · rw [if_pos hs, if_pos hs]; exact pm_j5 s x _ k (by omega)
      · rw [if_neg hs]; exact pm_j5 s x _ k (by omega)
theorem pm_j3 (s : List UInt8) (x x7 : Int) (k : Nat) (h0 : 0 ≤ x7) (hk : 38 ≤ k) : ∃ r, spec_ParseMilli.j3 k (B s) x x7 = some r ∧ Good s r := by
  obtain ⟨k, rfl⟩ : ∃ m, k = m + 1 := ⟨k - 1, by omega⟩
  rw [spec_ParseMilli.j3]
  by_cases h3 : x7 > 3
  · rw [if_pos h3]; exact ⟨_, rfl, .inl rfl⟩
  · rw [if_neg h3]; exact pm_l1 s 3 x x7 k h0 (by omega) (by omega)
theorem pm_total (s : List UInt8) (hs : s.length ≤ 13) : ∀ (d i : Nat) (x dot : Int) (k : Nat), i + d = s.length → -1 ≤ dot → dot < i → 3 * d + 40 ≤ k → ∃ r, spec_ParseMilli.l0 k (B s) x dot (i : Int) = some r ∧ Good s r
  | 0, i, x, dot, k, hi, h1, h2, hk => by
    obtain ⟨k, rfl⟩ : ∃ m, k = m + 1 := ⟨k - 1, by omega⟩
    rw [spec_ParseMilli.l0, B_size, if_neg (by omega)]
    by_cases hd : dot ≥ 0
    · rw [if_pos hd, wi ((s.length : Int) - dot) (by omega) (by omega), wi ((s.length : Int) - dot - 1) (by omega) (by omega)]
      exact pm_j3 s x _ k (by omega) (by omega)
    · rw [if_neg hd]; exact pm_j3 s x 0 k (by omega) (by omega)
  | d + 1, i, x, dot, k, hi, h1, h2, hk => by
    obtain ⟨k, rfl⟩ : ∃ m, k = m + 3 := ⟨k - 3, by omega⟩
    have next : ∀ (m : Nat) (x dot : Int), k ≤ m → -1 ≤ dot → dot < ((i + 1 : Nat) : Int) → ∃ r, spec_ParseMilli.l0 m (B s) x dot ((i + 1 : Nat) : Int) = some r ∧ Good s r := fun m x dot hm a b => pm_total s hs d (i + 1) x dot m (by omega) a b (by omega)
    obtain ⟨c, hc⟩ : ∃ c, s[i]? = some c := ⟨s[i]'(by omega), List.getElem?_eq_getElem (by omega)⟩
    have hb := B_bt s i c hc
    rw [spec_ParseMilli.l0, B_size, if_pos (by omega), if_pos (by omega), hb]
    have hj2 : ∀ b : Bool, ∃ r, spec_ParseMilli.j2 (k + 1) (B s) x dot (i : Int) b = some r ∧ Good s r := by
      intro b
      rw [spec_ParseMilli.j2]
      cases b
      · rw [if_neg (by simp), B_size, if_pos (by omega), if_pos (by omega), hb, wi_next i (by omega)]
        by_cases a : (c.toNat : Int) ≥ 48
        · rw [if_pos a]
          by_cases b : (c.toNat : Int) ≤ 57
          · rw [if_pos b]; exact next _ _ _ (by omega) h1 (by omega)
          · rw [if_neg b]; exact ⟨_, rfl, .inl rfl⟩
        · rw [if_neg a]; exact ⟨_, rfl, .inl rfl⟩
      · rw [if_pos rfl, wi_next i (by omega)]; exact next _ _ _ (by omega) (by omega) (by omega)
    have hj1 : ∀ b : Bool, ∃ r, spec_ParseMilli.j1 (k + 2) (B s) x dot (i : Int) b = some r ∧ Good s r := by
      intro b
      rw [spec_ParseMilli.j1]
      cases b
      · rw [if_neg (by simp), B_size, if_pos (by omega), if_pos (by omega), hb]
        by_cases a : (c.toNat : Int) = 46
        · rw [if_pos a]; exact hj2 _
        · rw [if_neg a]; exact hj2 _
      · rw [if_pos rfl, wi_next i (by omega)]; exact next _ _ _ (by omega) h1 (by omega)
    by_cases a : (c.toNat : Int) = 45
    · rw [if_pos a]; exact hj1 _
    · rw [if_neg a]; exact hj1 _
/-- The digits behind the dot. -/
theorem trim_three (f q : Nat) (h0 : f ≠ 0) (h1 : f < 1000) : ∃ n : Nat, Lib.decFrom q (Lib.trimRightB (three f) 48) = some n ∧ 1 ≤ (Lib.trimRightB (three f) 48).length ∧ (Lib.trimRightB (three f) 48).length ≤ 3 ∧ n * 10 ^ (3 - (Lib.trimRightB (three f) 48).length) = q * 1000 + f ∧ (Lib.trimRightB (three f) 48 ++ [48, 48, 48]).take 3 = three f := by
  have d1 := digit_of (f / 100) (by omega)
  have d2 := digit_of (f / 10 % 10) (by omega)
  have d3 := digit_of (f % 10) (by omega)
  by_cases c3 : f % 10 = 0
  · by_cases c2 : f / 10 % 10 = 0
    · have e : Lib.trimRightB (three f) 48 = [UInt8.ofNat (48 + f / 100)] := by
        simp only [three, Lib.trimRightB, List.reverse_cons, List.reverse_nil, List.nil_append, List.cons_append, c3, c2]
        rw [List.dropWhile_cons_of_pos (by decide), List.dropWhile_cons_of_pos (by decide), List.dropWhile_cons_of_neg (by rw [byte_ne (f / 100) (by omega) (by omega)]; decide)]
        rfl
      rw [e]
      refine ⟨q * 10 + f / 100, by simp only [Lib.decFrom, d1], by simp, by simp, ?_, ?_⟩
      · simp only [List.length_cons, List.length_nil]
        rw [show (10 : Nat) ^ (3 - (0 + 1)) = 100 from rfl]
        omega
      · simp [three, c3, c2]
    · have e : Lib.trimRightB (three f) 48 = [UInt8.ofNat (48 + f / 100), UInt8.ofNat (48 + f / 10 % 10)] := by
        simp only [three, Lib.trimRightB, List.reverse_cons, List.reverse_nil, List.nil_append, List.cons_append, c3]
        rw [List.dropWhile_cons_of_pos (by decide), List.dropWhile_cons_of_neg (by rw [byte_ne (f / 10 % 10) (by omega) c2]; decide)]
        rfl
      rw [e]
      refine ⟨(q * 10 + f / 100) * 10 + f / 10 % 10, by simp only [Lib.decFrom, d1, d2], by simp, by simp, ?_, ?_⟩
      · simp only [List.length_cons, List.length_nil]
        rw [show (10 : Nat) ^ (3 - (0 + 1 + 1)) = 10 from rfl]
        omega
      · simp [three, c3]
  · have e : Lib.trimRightB (three f) 48 = three f := by
      simp only [three, Lib.trimRightB, List.reverse_cons, List.reverse_nil, List.nil_append, List.cons_append]
      rw [List.dropWhile_cons_of_neg (by rw [byte_ne (f % 10) (by omega) c3]; decide)]
      rfl
    rw [e]
    refine ⟨((q * 10 + f / 100) * 10 + f / 10 % 10) * 10 + f % 10, by simp only [three, Lib.decFrom, d1, d2, d3], by simp [three], by simp [three], ?_, ?_⟩
    · simp only [three, List.length_cons, List.length_nil]
      rw [show (10 : Nat) ^ (3 - (0 + 1 + 1 + 1)) = 1 from rfl]
      omega
    · simp [three]
theorem pm_j5_hit (s : List UInt8) (u : Nat) (neg : Bool) (v : Int) (hv : v = if neg = true then -(u : Int) else u) (hu : u ≤ 1000000000) (hm : milli v = s) (k : Nat) (hk : 31 ≤ k) : spec_ParseMilli.j5 k (B s) (u : Int) neg = some (v, true) := by
  obtain ⟨k, rfl⟩ : ∃ m, k = m + 1 := ⟨k - 1, by omega⟩
  have hne : s ≠ [] := by
    rw [← hm]
    refine milli_ne v ?_ ?_
    · rw [hv]; split <;> omega
    · rw [hv]; split <;> omega
  rw [spec_ParseMilli.j5]
  cases neg
  · rw [if_neg (by simp), show (u : Int) = v from by rw [hv, if_neg (by simp)], milli_spec v k (by omega)]
    simp only [Option.bind_some, B_toList]
    rw [if_pos hm, if_neg hne]
  · rw [if_pos rfl, wi (-(u : Int)) (by omega) (by omega), show -(u : Int) = v from by rw [hv, if_pos rfl], milli_spec v k (by omega)]
    simp only [Option.bind_some, B_toList]
    rw [if_pos hm, if_neg hne]
theorem milli_short (v : Int) : (milli v).length ≤ 12 := by
  unfold milli
  by_cases h : -1000000000 ≤ v ∧ v ≤ 1000000000
  · rw [if_pos h]
    have h1 := dec_len 6 (v.natAbs / 1000) (by have : (10 : Nat) ^ (6 + 1) = 10000000 := by decide
                                               omega)
    have h2 : (frac (v.natAbs % 1000)).length ≤ 4 := by
      unfold frac
      split
      · simp
      · rename_i h0
        obtain ⟨_, _, _, h3, _⟩ := trim_three (v.natAbs % 1000) 0 h0 (by omega)
        rw [List.length_cons]
        omega
    have h3 : (if v < 0 then ([45] : List UInt8) else []).length ≤ 1 := by split <;> simp
    rw [List.length_append, List.length_append]
    omega
  · rw [if_neg h]; simp
theorem pm_tail (s sg ds : List UInt8) (hs : s.length ≤ 1000) (f q : Nat) (hq : q ≤ 1000000) (hf : f < 1000) (hS : s = sg ++ ds ++ frac f) (hD : Lib.decFrom 0 ds = some q) (c : UInt8) (hc : s[0]? = some c) (m : Nat) (hm : 60 ≤ m) (hd20 : ds.length ≤ 10) :
    ∃ m', 31 ≤ m' ∧ spec_ParseMilli.l0 (m + 3 * ds.length) (B s) 0 (-1) (sg.length : Int) = spec_ParseMilli.j5 m' (B s) ((q * 1000 + f : Nat) : Int) ((c.toNat : Int) == 45) := by
  have e1 : s.drop sg.length = ds ++ frac f := by rw [hS, List.append_assoc, List.drop_append_of_le_length (Nat.le_refl _), List.drop_length, List.nil_append]
  have := pm_digits s hs ds sg.length 0 q (frac f) (-1) m e1 hD (by omega)
  rw [show (((0 : Nat) : Int)) = 0 from rfl] at this
  rw [this]
  have hlen : s.length = sg.length + ds.length + (frac f).length := by rw [hS, List.length_append, List.length_append]
  have e2 : s.drop (sg.length + ds.length) = frac f := by
    rw [hS, List.drop_append_of_le_length (by rw [List.length_append]; exact Nat.le_refl _), ← List.length_append, List.drop_length, List.nil_append]
  by_cases h0 : f = 0
  · obtain ⟨m, rfl⟩ : ∃ n, m = n + 3 + 1 + 2 := ⟨m - 6, by omega⟩
    have hfr : frac f = [] := by unfold frac; rw [if_pos h0]
    rw [hfr] at hlen
    rw [spec_ParseMilli.l0, B_size, if_neg (by simp only [List.length_nil] at hlen; omega), if_neg (by omega), spec_ParseMilli.j3, if_neg (by omega)]
    have := pm_scale s c hc 3 q m (by rw [show (10 : Nat) ^ 3 = 1000 from rfl]; omega) (by omega)
    rw [show (3 - ((3 : Nat) : Int)) = 0 from rfl] at this
    rw [this]
    refine ⟨m, by omega, ?_⟩
    rw [show (10 : Nat) ^ 3 = 1000 from rfl, h0, Nat.add_zero]
  · obtain ⟨n, t1, t2, t3, t4, _⟩ := trim_three f q h0 hf
    have hfr : frac f = 46 :: Lib.trimRightB (three f) 48 := by unfold frac; rw [if_neg h0]
    rw [hfr] at e2 hlen
    obtain ⟨a1, a2⟩ := at_drop e2
    obtain ⟨m, rfl⟩ : ∃ n, m = n + 3 + 3 := ⟨m - 6, by omega⟩
    have hn : n ≤ q * 1000 + f := by rw [← t4]; exact Nat.le_mul_of_pos_right _ (Nat.pow_pos (by decide))
    rw [pm_dot s hs _ a1]
    obtain ⟨t, ht⟩ : ∃ t, t = (Lib.trimRightB (three f) 48).length := ⟨_, rfl⟩
    rw [← ht] at t2 t3 t4
    obtain ⟨p, hp⟩ : ∃ p, m + 3 = p + 3 * t := ⟨m + 3 - 3 * t, by omega⟩
    have e3 := pm_digits s hs (Lib.trimRightB (three f) 48) (sg.length + ds.length + 1) q n [] ((sg.length + ds.length : Nat) : Int) p (by rw [a2, List.append_nil]) t1 (by omega)
    rw [← ht, ← hp] at e3
    rw [e3]
    rw [List.length_cons, ← ht] at hlen
    obtain ⟨p, rfl⟩ : ∃ n, p = n + (3 - t) + 1 + 2 := ⟨p - (3 - t) - 3, by omega⟩
    rw [spec_ParseMilli.l0, B_size, if_neg (by omega), if_pos (by omega), wi ((s.length : Int) - ((sg.length + ds.length : Nat) : Int)) (by omega) (by omega), wi ((s.length : Int) - ((sg.length + ds.length : Nat) : Int) - 1) (by omega) (by omega), spec_ParseMilli.j3, if_neg (by omega)]
    have := pm_scale s c hc (3 - t) n p (by omega) (by omega)
    rw [show (s.length : Int) - ((sg.length + ds.length : Nat) : Int) - 1 = 3 - ((3 - t : Nat) : Int) from by omega, this, t4]
    exact ⟨p, by omega, rfl⟩
theorem pm_complete (v : Int) (h1 : -1000000000 ≤ v) (h2 : v ≤ 1000000000) (k : Nat) (hk : 200 ≤ k) : spec_ParseMilli.f k (B (milli v)) = some (v, true) := by
  have hs := milli_short v
  have hdl := dec_len 6 (v.natAbs / 1000) (by have : (10 : Nat) ^ (6 + 1) = 10000000 := by decide
                                              omega)
  have hS : milli v = (if v < 0 then [45] else []) ++ Lib.decDigits (v.natAbs / 1000) ++ frac (v.natAbs % 1000) := by unfold milli; rw [if_pos ⟨h1, h2⟩]
  have hu : v.natAbs / 1000 * 1000 + v.natAbs % 1000 = v.natAbs := by omega
  obtain ⟨d, ds, hds⟩ : ∃ d ds, Lib.decDigits (v.natAbs / 1000) = d :: ds := by
    cases h : Lib.decDigits (v.natAbs / 1000) with
    | nil => exact absurd h (dec_ne _)
    | cons d ds => exact ⟨d, ds, rfl⟩
  have hD := decFrom_dec (v.natAbs / 1000)
  unfold spec_ParseMilli.f
  rw [B_size, if_neg (by omega)]
  by_cases hn : v < 0
  · rw [if_pos hn] at hS
    have hc : (milli v)[0]? = some 45 := by rw [hS]; rfl
    obtain ⟨m', hm', e⟩ := pm_tail (milli v) [45] _ (by omega) (v.natAbs % 1000) (v.natAbs / 1000) (by omega) (by omega) hS hD 45 hc (k - 2 - 3 * (Lib.decDigits (v.natAbs / 1000)).length) (by omega) (by omega)
    rw [show k - 2 - 3 * (Lib.decDigits (v.natAbs / 1000)).length + 3 * (Lib.decDigits (v.natAbs / 1000)).length = k - 2 from by omega] at e
    have e0 := pm_sign (milli v) (by omega) hc (k - 2)
    rw [show k - 2 + 2 = k from by omega] at e0
    rw [e0]
    refine Eq.trans e ?_
    rw [hu]
    exact pm_j5_hit _ _ _ v (by rw [if_pos (by rfl)]; omega) (by omega) rfl m' hm'
  · rw [if_neg hn, List.nil_append] at hS
    have hc : (milli v)[0]? = some d := by rw [hS, hds]; rfl
    have hdv : 48 ≤ d.toNat := by
      rw [hds] at hD
      simp only [Lib.decFrom] at hD
      cases hv : Lib.digitVal d with
      | none => rw [hv] at hD; cases hD
      | some _ => exact (digit_iff hv).1
    obtain ⟨m', hm', e⟩ := pm_tail (milli v) [] _ (by omega) (v.natAbs % 1000) (v.natAbs / 1000) (by omega) (by omega) (by rw [List.nil_append]; exact hS) hD d hc (k - 3 * (Lib.decDigits (v.natAbs / 1000)).length) (by omega) (by omega)
    rw [show k - 3 * (Lib.decDigits (v.natAbs / 1000)).length + 3 * (Lib.decDigits (v.natAbs / 1000)).length = k from by omega] at e
    refine Eq.trans e ?_
    rw [hu]
    refine pm_j5_hit _ _ _ v ?_ (by omega) rfl m' hm'
    rw [if_neg (by rw [beq_iff_eq]; omega)]
    omega
theorem pm_spec (s : List UInt8) (k : Nat) (hk : 200 ≤ k) : ∃ r, spec_ParseMilli.f k (B s) = some r ∧ Good s r := by
  by_cases hs : s.length ≤ 13
  · obtain ⟨r, h1, h2⟩ := pm_total s hs s.length 0 0 (-1) k (by omega) (by omega) (by omega) (by omega)
    refine ⟨r, ?_, h2⟩
    unfold spec_ParseMilli.f
    rw [B_size, if_neg (by omega)]
    exact h1
  · refine ⟨_, ?_, .inl rfl⟩
    unfold spec_ParseMilli.f
    rw [B_size, if_pos (by omega)]
theorem trim_some (s : List UInt8) : ∃ p, strings_TrimPrefix.f (B s) (⟨#[45]⟩ : ByteArray) = some (B p) ∧ p.length ≤ s.length ∧ (∀ r, s = 45 :: r → p = r) ∧ (s.head? ≠ some 45 → p = s) := by
  have h1 : (⟨#[45]⟩ : ByteArray) = B [45] := rfl
  cases s with
  | nil => exact ⟨[], by unfold strings_TrimPrefix.f stringslite_TrimPrefix.f stringslite_HasPrefix.f; simp [h1, B_size], Nat.le_refl _, (fun r h => by cases h), fun _ => rfl⟩
  | cons c r =>
    by_cases hc : c = 45
    · subst hc
      refine ⟨r, ?_, by simp, fun r' h => by injection h, fun h => absurd rfl h⟩
      unfold strings_TrimPrefix.f stringslite_TrimPrefix.f stringslite_HasPrefix.f
      rw [h1, B_size, B_size, if_pos (by first | (simp; done) | (simp only [List.length_cons, List.length_nil]; omega)), if_pos (by first | (simp; done) | (simp only [List.length_cons, List.length_nil]; omega)), if_pos (by first | (simp; done) | (simp only [List.length_cons, List.length_nil]; omega)), B_ext]
      simp only [Option.bind_some, B_toList]
      rw [if_pos (by first | (simp; done) | (simp only [List.length_cons, List.length_nil]; omega)), if_pos (by first | (simp; done) | (simp only [List.length_cons, List.length_nil]; omega)), if_pos (by first | (simp; done) | (simp only [List.length_cons, List.length_nil]; omega)), B_ext]
      simp
    · refine ⟨c :: r, ?_, Nat.le_refl _, fun r' h => by injection h with h _; exact absurd h hc, fun _ => rfl⟩
      unfold strings_TrimPrefix.f stringslite_TrimPrefix.f stringslite_HasPrefix.f
      rw [h1, B_size, B_size, if_pos (by first | (simp; done) | (simp only [List.length_cons, List.length_nil]; omega)), if_pos (by first | (simp; done) | (simp only [List.length_cons, List.length_nil]; omega)), if_pos (by first | (simp; done) | (simp only [List.length_cons, List.length_nil]; omega)), B_ext]
      simp only [Option.bind_some, B_toList]
      rw [if_neg (by simpa using hc)]
      rfl
theorem indexByte_hit (c : UInt8) : ∀ (a b : List UInt8), c ∉ a → Lib.indexByte (a ++ c :: b) c = (a.length : Int)
  | [], b, _ => by simp [Lib.indexByte]
  | d :: a, b, h => by
    have hd : d ≠ c := fun e => h (by rw [e]; exact List.mem_cons_self)
    have := indexByte_hit c a b (fun e => h (List.mem_cons_of_mem _ e))
    simp only [List.cons_append, Lib.indexByte, this]
    rw [if_neg (by simpa using hd), if_neg (by simp), List.length_cons]
    omega
theorem indexByte_miss (c : UInt8) : ∀ (a : List UInt8), c ∉ a → Lib.indexByte a c = -1
  | [], _ => rfl
  | d :: a, h => by
    have hd : d ≠ c := fun e => h (by rw [e]; exact List.mem_cons_self)
    have := indexByte_miss c a (fun e => h (List.mem_cons_of_mem _ e))
    simp only [Lib.indexByte, this]
    rw [if_neg (by simpa using hd), if_pos (by rfl)]
theorem cut_hit (c : UInt8) (a b : List UInt8) (h : c ∉ a) : Lib.cut (a ++ c :: b) [c] = (a, b, true) := by
  unfold Lib.cut
  rw [Lib.index_one, indexByte_hit c a b h, if_pos (by omega)]
  simp
theorem cut_miss (c : UInt8) (a : List UInt8) (h : c ∉ a) : Lib.cut a [c] = (a, [], false) := by
  unfold Lib.cut
  rw [Lib.index_one, indexByte_miss c a h, if_neg (by omega)]
theorem cut_some (p : List UInt8) (h : p.length < 4294967281) : strings_Cut.f (B p) (⟨#[46]⟩ : ByteArray) = some (B (Lib.cut p [46]).1, B (Lib.cut p [46]).2.1, (Lib.cut p [46]).2.2) := by
  unfold strings_Cut.f
  rw [B_size, if_pos h, B_data]
  rfl
theorem cut_le (p : List UInt8) : (Lib.cut p [46]).1.length ≤ p.length ∧ (Lib.cut p [46]).2.1.length ≤ p.length := by
  unfold Lib.cut
  split
  · constructor
    · simp only [List.length_take]; omega
    · simp only [List.length_drop]; omega
  · exact ⟨Nat.le_refl _, Nat.zero_le _⟩
theorem atoi_total (l : List UInt8) (h : l.length ≤ 281474976710656) : ∃ n bad, strconv_Atoi.f (B l) = some (n, bad) := by
  unfold strconv_Atoi.f
  rw [B_size, if_pos h]
  split <;> exact ⟨_, _, rfl⟩
theorem dec_digits : ∀ (l : List UInt8) (a n : Nat), Lib.decFrom a l = some n → ∀ c ∈ l, 48 ≤ c.toNat ∧ c.toNat ≤ 57
  | [], _, _, _, c, hc => by cases hc
  | d :: l, a, n, h, c, hc => by
    simp only [Lib.decFrom] at h
    cases hd : Lib.digitVal d with
    | none => rw [hd] at h; cases h
    | some x =>
      rw [hd] at h
      rcases List.mem_cons.1 hc with rfl | hc
      · exact ⟨(digit_iff hd).1, (digit_iff hd).2.1⟩
      · exact dec_digits l _ n h c hc
theorem atoi_digits (l : List UInt8) (n : Nat) (hne : l ≠ []) (hl : l.length ≤ 18) (h : Lib.decFrom 0 l = some n) : strconv_Atoi.f (B l) = some ((n : Int), false) := by
  have ha : Lib.atoiAll l = .ok (n : Int) := by
    rw [Lib.atoiAll_short l hl]
    cases l with
    | nil => exact absurd rfl hne
    | cons c r =>
      have hc := dec_digits _ 0 n h c List.mem_cons_self
      have h1 : (c == 45) = false := beq_eq_false_iff_ne.2 (fun e => by rw [e] at hc; revert hc; decide)
      have h2 : (c == 43) = false := beq_eq_false_iff_ne.2 (fun e => by rw [e] at hc; revert hc; decide)
      simp only [Lib.atoi, h1, h2, Lib.decNat, h, List.isEmpty_cons]
      rfl
  unfold strconv_Atoi.f
  rw [B_size, if_pos (by omega), B_data, ha]
theorem pm_impl (s : List UInt8) (hs : s.length ≤ 1048576) (k : Nat) (hk : 1 ≤ k) : ∃ r, impl_ParseMilli.f k (B s) = some r ∧ Good s r := by
  obtain ⟨p, h1, h2, _, _⟩ := trim_some s
  obtain ⟨c1, c2⟩ := cut_le p
  unfold impl_ParseMilli.f
  rw [h1]
  simp only [Option.bind_some]
  rw [cut_some p (by omega)]
  simp only [Option.bind_some, B_size]
  by_cases a1 : 7 < ((Lib.cut p [46]).1.length : Int)
  · rw [if_pos a1]; exact ⟨_, rfl, .inl rfl⟩
  rw [if_neg a1]
  by_cases a2 : 3 < ((Lib.cut p [46]).2.1.length : Int)
  · rw [if_pos a2]; exact ⟨_, rfl, .inl rfl⟩
  rw [if_neg a2, show (⟨#[48, 48, 48]⟩ : ByteArray) = B [48, 48, 48] from rfl, B_app, B_ext, B_app]
  obtain ⟨n, bad, h3⟩ := atoi_total ((Lib.cut p [46]).1 ++ ((((Lib.cut p [46]).2.1 ++ [48, 48, 48]).drop 0).take (3 - 0))) (by rw [List.length_append, List.length_take]; omega)
  rw [h3]
  simp only [Option.bind_some]
  cases bad
  · rw [if_neg (by simp), value_impl]
    simp only [Option.bind_some]
    obtain ⟨y, hy⟩ : ∃ y, y = (if (B p).toList = (B s).toList then n else wrap64 (-n)) := ⟨_, rfl⟩
    rw [← hy]
    by_cases a3 : -1000000000 ≤ y ∧ y ≤ 1000000000
    · rw [if_pos (by simpa using a3), milli_impl y k hk]
      simp only [Option.bind_some, B_toList]
      by_cases a4 : milli y = s
      · rw [if_pos a4]; exact ⟨_, rfl, .inr ⟨y, a3.1, a3.2, a4, rfl⟩⟩
      · rw [if_neg a4]; exact ⟨_, rfl, .inl rfl⟩
    · rw [if_neg (by simpa using a3)]; exact ⟨_, rfl, .inl rfl⟩
  · rw [if_pos rfl]; exact ⟨_, rfl, .inl rfl⟩
theorem pm_impl_hit (v : Int) (h1 : -1000000000 ≤ v) (h2 : v ≤ 1000000000) (k : Nat) (hk : 1 ≤ k) : impl_ParseMilli.f k (B (milli v)) = some (v, true) := by
  have hs := milli_short v
  have hdl := dec_len 6 (v.natAbs / 1000) (by have : (10 : Nat) ^ (6 + 1) = 10000000 := by decide
                                              omega)
  have hS : milli v = (if v < 0 then [45] else []) ++ Lib.decDigits (v.natAbs / 1000) ++ frac (v.natAbs % 1000) := by unfold milli; rw [if_pos ⟨h1, h2⟩]
  have hD := decFrom_dec (v.natAbs / 1000)
  have hdig := dec_digits _ 0 _ hD
  have hne := dec_ne (v.natAbs / 1000)
  have hdot : (46 : UInt8) ∉ Lib.decDigits (v.natAbs / 1000) := fun h => by
    have := (hdig 46 h).1
    revert this
    decide
  -- the two parts
  obtain ⟨b, hcut, hb3, hb⟩ : ∃ b, (∃ t, Lib.cut (Lib.decDigits (v.natAbs / 1000) ++ frac (v.natAbs % 1000)) [46] = (Lib.decDigits (v.natAbs / 1000), b, t)) ∧ b.length ≤ 3 ∧ Lib.decFrom 0 (Lib.decDigits (v.natAbs / 1000) ++ (b ++ [48, 48, 48]).take 3) = some v.natAbs := by
    by_cases h0 : v.natAbs % 1000 = 0
    · refine ⟨[], ⟨false, ?_⟩, by simp, ?_⟩
      · unfold frac; rw [if_pos h0, List.append_nil]; exact cut_miss 46 _ hdot
      · rw [decFrom_app, hD]
        simp only [Option.bind_some, List.nil_append, List.take_succ_cons, List.take_zero, Lib.decFrom, show Lib.digitVal 48 = some 0 from rfl]
        congr 1
        omega
    · obtain ⟨n, t1, t2, t3, t4, t5⟩ := trim_three (v.natAbs % 1000) (v.natAbs / 1000) h0 (by omega)
      refine ⟨Lib.trimRightB (three (v.natAbs % 1000)) 48, ⟨true, ?_⟩, t3, ?_⟩
      · unfold frac; rw [if_neg h0]; exact cut_hit 46 _ _ hdot
      · rw [decFrom_app, hD, t5]
        simp only [Option.bind_some, three, Lib.decFrom, digit_of (v.natAbs % 1000 / 100) (by omega), digit_of (v.natAbs % 1000 / 10 % 10) (by omega), digit_of (v.natAbs % 1000 % 10) (by omega)]
        congr 1
        omega
  obtain ⟨t, hcut⟩ := hcut
  have ht3 : ((b ++ [48, 48, 48]).take 3).length ≤ 3 := by rw [List.length_take]; omega
  have hat := atoi_digits _ v.natAbs (by simp [hne]) (by rw [List.length_append]; omega) hb
  obtain ⟨p, e1, _, e2, e3⟩ := trim_some (milli v)
  have key : p = Lib.decDigits (v.natAbs / 1000) ++ frac (v.natAbs % 1000) ∧ ((B p).toList = (B (milli v)).toList ↔ ¬ v < 0) := by
    rw [B_toList, B_toList]
    by_cases hn : v < 0
    · rw [if_pos hn] at hS
      have := e2 (Lib.decDigits (v.natAbs / 1000) ++ frac (v.natAbs % 1000)) (by rw [hS]; rfl)
      refine ⟨this, fun h => ?_, fun h => absurd hn h⟩
      rw [hS, this] at h
      have := congrArg List.length h
      simp only [List.length_append, List.length_cons, List.length_nil] at this
      omega
    · rw [if_neg hn, List.nil_append] at hS
      have := e3 (by
        rw [hS]
        cases hd : Lib.decDigits (v.natAbs / 1000) with
        | nil => exact absurd hd hne
        | cons c r =>
          have := hdig c (by rw [hd]; exact List.mem_cons_self)
          simp only [List.cons_append, List.head?_cons, ne_eq, Option.some.injEq]
          intro e
          rw [e] at this
          revert this
          decide)
      exact ⟨this.trans hS, fun _ => hn, fun _ => this⟩
  obtain ⟨rfl, hsame⟩ := key
  unfold impl_ParseMilli.f
  rw [e1]
  simp only [Option.bind_some]
  rw [cut_some _ (by rw [hS] at hs; simp only [List.length_append] at hs ⊢; omega), hcut]
  simp only [Option.bind_some, B_size]
  rw [if_neg (by omega), if_neg (by omega), show (⟨#[48, 48, 48]⟩ : ByteArray) = B [48, 48, 48] from rfl, B_app, B_ext, B_app]
  have e4 : List.take (3 - 0) (List.drop 0 (b ++ [48, 48, 48])) = List.take 3 (b ++ [48, 48, 48]) := rfl
  rw [e4, hat]
  simp only [Option.bind_some]
  rw [if_neg (by simp)]
  have hy : (if (B (Lib.decDigits (v.natAbs / 1000) ++ frac (v.natAbs % 1000))).toList = (B (milli v)).toList then ((v.natAbs : Nat) : Int) else wrap64 (-((v.natAbs : Nat) : Int))) = v := by
    by_cases hn : v < 0
    · rw [if_neg (fun h => hsame.1 h hn), wi _ (by omega) (by omega)]
      omega
    · rw [if_pos (hsame.2 hn)]
      omega
  rw [hy, value_impl]
  simp only [Option.bind_some]
  rw [if_pos (by simpa using ⟨h1, h2⟩), milli_impl v k hk]
  simp
/-- Both readers hand back the same. -/
theorem pm_same (s : List UInt8) (hs : s.length ≤ 1048576) (k : Nat) (hk : 200 ≤ k) : ∃ r, spec_ParseMilli.f k (B s) = some r ∧ impl_ParseMilli.f k (B s) = some r ∧ Good s r := by
  obtain ⟨r1, a1, g1⟩ := pm_spec s k hk
  obtain ⟨r2, a2, g2⟩ := pm_impl s hs k (by omega)
  rcases g1 with rfl | ⟨v, h1, h2, h3, rfl⟩
  · rcases g2 with rfl | ⟨v, h1, h2, h3, rfl⟩
    · exact ⟨_, a1, a2, .inl rfl⟩
    · rw [← h3, pm_complete v h1 h2 k hk] at a1
      cases a1
  · refine ⟨_, a1, ?_, .inr ⟨v, h1, h2, h3, rfl⟩⟩
    rw [← h3]
    exact pm_impl_hit v h1 h2 k (by omega)
end Go.Proofs.YtjelbcdloocacaaGreatDoor.PureParse
