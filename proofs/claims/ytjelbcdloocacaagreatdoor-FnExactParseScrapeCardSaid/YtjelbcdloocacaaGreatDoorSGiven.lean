/-
What functions of Go's library return, told as the printed functions are told; and what their callers must know of the library's variables ('Tabs': the table of powers of ten, and that MaxLen is an int; 'TabsE': besides, that strconv's two sentinel errors are interface values).
Conditions: those that each theorem names.
-/
import Derived.Test.YtjelbcdloocacaaGreatDoorShelf
import Derived.Test.YtjelbcdloocacaaGreatDoorSWMore
import Derived.Lib.SmallJoins
import Derived.Lib.AppendIntMem
import Derived.WalkKit
namespace Go.Proofs.YtjelbcdloocacaaGreatDoor.Given
open Go.RowKit Go.Proofs.YtjelbcdloocacaaGreatDoorW.PrintWords Go.Proofs.YtjelbcdloocacaaGreatDoorW.PrintLast Go.Proofs.YtjelbcdloocacaaGreatDoorW.PrintMore

structure Tabs (w : World) : Prop where
  pow : Lib.TabIs Tryz.prog w "internal/strconv.uint64pow10" .u64 Lib.pow10Tab
  max : ∃ m : Int, w.cell? ⟨0, 0, none⟩ = some (.int .i64 m)
  size : 0 < w.heap.size
theorem Tabs.below {w W : World} (h : Tabs w) (hb : Below w.heap.size w W) : Tabs W :=
  ⟨Joins.tab_stays (show Tryz.prog.globalNamed "internal/strconv.uint64pow10" = some 5 by kernel_rfl) h.pow hb (Nat.le_refl _), by
    obtain ⟨m, hm⟩ := h.max
    exact ⟨m, (hb.cell (p := ⟨0, 0, none⟩) h.size).trans hm⟩, Nat.lt_of_lt_of_le h.size hb.size⟩
structure TabsE (w : World) : Prop where
  tabs : Tabs w
  syn : ∃ ev, w.cell? ⟨1, 0, none⟩ = some ev ∧ (ev = .nilIface ∨ ∃ te pe, ev = .iface te pe)
  ran : ∃ ev, w.cell? ⟨2, 0, none⟩ = some ev ∧ (ev = .nilIface ∨ ∃ te pe, ev = .iface te pe)
  size : 1 < w.heap.size ∧ 2 < w.heap.size
theorem TabsE.below {w W : World} (h : TabsE w) (hb : Below w.heap.size w W) : TabsE W :=
  ⟨h.tabs.below hb, by
    obtain ⟨ev, hc, hv⟩ := h.syn
    exact ⟨ev, (hb.cell (p := ⟨1, 0, none⟩) h.size.1).trans hc, hv⟩, by
    obtain ⟨ev, hc, hv⟩ := h.ran
    exact ⟨ev, (hb.cell (p := ⟨2, 0, none⟩) h.size.2).trans hc, hv⟩, Nat.lt_of_lt_of_le h.size.1 hb.size, Nat.lt_of_lt_of_le h.size.2 hb.size⟩

/-- strconv.Itoa: the decimal numeral. -/
def strconv_Itoa.f (n : Int) : Option ByteArray := if -9223372036854775808 ≤ n ∧ n ≤ 9223372036854775807 then some ⟨(Lib.itoa n).toArray⟩ else none
theorem strconv_Itoa.calls (n : Int) (r : ByteArray) (w : World) (hT : Tabs w) (h : strconv_Itoa.f n = some r) :
    Calls Tryz.prog 57 #[.int .i64 n] w fun e w' => e = .returned (.string r) ∧ Below w.heap.size w w' := by
  unfold strconv_Itoa.f at h
  by_cases hn : -9223372036854775808 ≤ n ∧ n ≤ 9223372036854775807
  · rw [if_pos hn] at h
    cases h
    refine (Tryz.strconv_Itoa n hn.1 hn.2 w hT.pow).mono ?_
    rintro e w' ⟨rfl, k, os, rfl⟩
    exact ⟨rfl, Lib.below_grow _ _ (Nat.le_refl _) _ _⟩
  · rw [if_neg hn] at h
    cases h

/-- strings.TrimRight at a cutset of one ASCII byte. -/
def strings_TrimRight.f (s c : ByteArray) : Option ByteArray := if c.size = 1 ∧ (bt c 0) < 128 ∧ s.size ≤ 9223372036854775807 then some ⟨(Lib.trimRightB s.data.toList (UInt8.ofNat (bt c 0).toNat)).toArray⟩ else none
theorem one_byte (c : ByteArray) (h : c.size = 1) : c = ⟨#[UInt8.ofNat (bt c 0).toNat]⟩ := by
  obtain ⟨⟨l⟩⟩ := c
  match l, h with
  | [x], _ =>
    have hb : bt ⟨⟨[x]⟩⟩ 0 = (x.toNat : Int) := by
      unfold bt
      rw [dif_pos (show Int.toNat 0 < (⟨⟨[x]⟩⟩ : ByteArray).size from Nat.zero_lt_one)]
      rfl
    rw [hb]
    simp
theorem strings_TrimRight.calls (s c : ByteArray) (r : ByteArray) (w : World) (h : strings_TrimRight.f s c = some r) :
    Calls Tryz.prog 58 #[.string s, .string c] w fun e w' => e = .returned (.string r) ∧ Below w.heap.size w w' := by
  unfold strings_TrimRight.f at h
  by_cases hc : c.size = 1 ∧ (bt c 0) < 128 ∧ s.size ≤ 9223372036854775807
  · rw [if_pos hc] at h
    cases h
    have e1 := one_byte c hc.1
    have hr := bt_range c 0
    have hb : (UInt8.ofNat (bt c 0).toNat).toNat < 128 := by
      rw [UInt8.toNat_ofNat']
      omega
    have e2 : (Value.string c) = .string ⟨#[UInt8.ofNat (bt c 0).toNat]⟩ := by rw [← e1]
    rw [e2]
    refine (Tryz.strings_TrimRight_one s _ hb w hc.2.2).mono ?_
    rintro e w' ⟨rfl, rfl⟩
    exact ⟨rfl, Below.refl _ _⟩
  · rw [if_neg hc] at h
    cases h

/-- strings.Cut. -/
def strings_Cut.f (s sep : ByteArray) : Option (ByteArray × ByteArray × Bool) := if s.size < 4294967281 then some (⟨(Lib.cut s.data.toList sep.data.toList).1.toArray⟩, ⟨(Lib.cut s.data.toList sep.data.toList).2.1.toArray⟩, (Lib.cut s.data.toList sep.data.toList).2.2) else none
theorem strings_Cut.calls (s sep : ByteArray) (r1 r2 : ByteArray) (r3 : Bool) (w : World) (hT : Tabs w) (h : strings_Cut.f s sep = some (r1, r2, r3)) :
    Calls Tryz.prog 39 #[.string s, .string sep] w fun e w' => e = .returned (.tuple #[.string r1, .string r2, .bool r3]) ∧ Below w.heap.size w w' := by
  unfold strings_Cut.f at h
  by_cases hs : s.size < 4294967281
  · rw [if_pos hs] at h
    simp only [Option.some.injEq, Prod.mk.injEq] at h
    obtain ⟨rfl, rfl, rfl⟩ := h
    obtain ⟨m, hm⟩ := hT.max
    refine (Tryz.strings_Cut s sep m w hs hm).mono ?_
    rintro e w' ⟨rfl, n, rfl⟩
    exact ⟨rfl, pw_below_drewN (Below.refl _ _) n⟩
  · rw [if_neg hs] at h
    cases h

theorem flat_of_cell {w : World} {a : Addr} {v : Value} (h : w.cell? a = some v) : a.spot = none := by
  unfold World.cell? at h
  split at h
  · split at h
    · cases h
    · rename_i hs
      simpa using hs
  · cases h
theorem lt_of_cell {w : World} {a : Addr} {v : Value} (h : w.cell? a = some v) : a.block < w.heap.size := by
  rcases Nat.lt_or_ge a.block w.heap.size with h1 | h1
  · exact h1
  · unfold World.cell? at h
    rw [Array.getElem?_eq_none h1] at h
    cases h
theorem add_flat (b o j : Nat) : (⟨b, o, none⟩ : Addr).add j = ⟨b, o + j, none⟩ := by
  unfold Addr.add
  by_cases h : j = 0 <;> simp [h]
/-- strings.Join. -/
def strings_Join.f (l : List ByteArray) (sep : ByteArray) : Option ByteArray := if (Lib.join (l.map (·.data.toList)) sep.data.toList).length ≤ 140737488355328 ∧ l.length ≤ 140737488355328 then some ⟨(Lib.join (l.map (·.data.toList)) sep.data.toList).toArray⟩ else none
theorem strings_Join.calls (A0 : Option Addr) (c0 : Nat) (l0 : List ByteArray) (sep : ByteArray) (r : ByteArray) (w : World) (hr0 : Kd.C Kd.string w A0 l0.length l0) (hc0 : l0.length ≤ c0) (h : strings_Join.f l0 sep = some r) :
    Calls Tryz.prog 59 #[.slice A0 l0.length c0, .string sep] w fun e w' => e = .returned (.string r) ∧ Below w.heap.size w w' := by
  unfold strings_Join.f at h
  by_cases hl : (Lib.join (l0.map (·.data.toList)) sep.data.toList).length ≤ 140737488355328 ∧ l0.length ≤ 140737488355328
  · rw [if_pos hl] at h
    cases h
    by_cases h0 : l0.length = 0
    · obtain rfl := List.length_eq_zero_iff.1 h0
      refine (Tryz.strings_Join_none A0 c0 sep w).mono ?_
      rintro e w' ⟨rfl, rfl⟩
      exact ⟨rfl, Below.refl _ _⟩
    · obtain ⟨ad, rfl, hc⟩ := hr0.2.2 (by omega)
      have hcell : ∀ (j : Nat) x, l0[j]? = some x → w.cell? (ad.add j) = some (.string x) := by
        intro j x hj
        obtain ⟨c, _, hk, hcc⟩ := hc j x hj
        cases hk
        have := hcc 0 _ rfl
        simpa [Kd.string, Kd.scalar] using this
      obtain ⟨blk, off, arm⟩ := ad
      obtain ⟨x0, hx0⟩ : ∃ x, l0[0]? = some x := ⟨l0[0]'(by omega), List.getElem?_eq_getElem (by omega)⟩
      have harm : (⟨blk, off, arm⟩ : Addr).spot = none := by
        have := flat_of_cell (hcell 0 x0 hx0)
        simpa [Addr.add] using this
      obtain rfl : arm = none := harm
      have hblk : blk < w.heap.size := by
        have := lt_of_cell (hcell 0 x0 hx0)
        simpa [Addr.add] using this
      refine (Tryz.strings_Join blk off c0 l0 sep w (fun j x hj => by rw [← add_flat]; exact hcell j x hj) hblk hl.2 hc0 hl.1).mono ?_
      rintro e w' ⟨rfl, hb⟩
      exact ⟨rfl, hb⟩
  · rw [if_neg hl] at h
    cases h

/-- strings.Split at a separator of one byte or more. -/
def strings_Split.f (s sep : ByteArray) : Option (List ByteArray) := if s.size < 4294967281 ∧ 1 ≤ sep.size ∧ (Lib.splitB sep 0 (Lib.countB s sep) s).length = Lib.countB s sep + 1 ∧ Lib.countB s sep + 1 ≤ 9223372036854775807 then some (Lib.splitB sep 0 (Lib.countB s sep) s) else none
theorem strings_Split.calls (s sep : ByteArray) (r : List ByteArray) (w : World) (hT : Tabs w) (h : strings_Split.f s sep = some r) :
    Calls Tryz.prog 24 #[.string s, .string sep] w fun e w' => ∃ v0_ : Value, e = .returned (v0_) ∧ Kd.R Kd.string 9 w' w.heap.size (fun _ => True) v0_ r ∧ Below w.heap.size w w' := by
  unfold strings_Split.f at h
  by_cases hs : s.size < 4294967281 ∧ 1 ≤ sep.size ∧ (Lib.splitB sep 0 (Lib.countB s sep) s).length = Lib.countB s sep + 1 ∧ Lib.countB s sep + 1 ≤ 9223372036854775807
  · rw [if_pos hs] at h
    cases h
    obtain ⟨m, hm⟩ := hT.max
    refine (Tryz.strings_Split s sep m w hs.1 hm hs.2.1).mono ?_
    rintro e w' ⟨rfl, rfl⟩
    refine ⟨_, rfl, ?_, below_alloc (Below.refl _ _) _⟩
    refine Kd.R_of_own ?_ (fun _ _ => trivial)
    refine ⟨by simp [encs], .inr ⟨w.heap.size, Lib.countB s sep + 1, ((Lib.splitB sep 0 (Lib.countB s sep) s).map Value.string).toArray, by rw [hs.2.2.1], Nat.le_refl _, heap_alloc_new w _, by omega, by unfold maxLen; omega, by simp [hs.2.2.1], by simp [encs]; exact List.take_of_length_le (by simp)⟩⟩
  · rw [if_neg hs] at h
    cases h
end Go.Proofs.YtjelbcdloocacaaGreatDoor.Given
