/-
slices.Sort and slices.Compact at a slice of strings that the call has built, told in the words of the printed functions.
Conditions: those that each theorem names (at most a million strings).
-/
import Derived.Test.YtebmlghhgccloaaShelf
import Derived.Test.YtebmlghhgccloaaWMore
import Derived.Sort.OwnSorted
import Derived.Lib.SlicesCompact
namespace Go.Proofs.Ytebmlghhgccloaa.Pods
open Go Go.RowKit Go.Sort Go.Proofs Go.Proofs.YtebmlghhgccloaaW.PrintWords Go.Proofs.YtebmlghhgccloaaW.PrintLast Go.Proofs.YtebmlghhgccloaaW.PrintMore

def bl (l : List ByteArray) : List (List UInt8) := l.map (·.data.toList)
def lb (l : List (List UInt8)) : List ByteArray := l.map fun b => ⟨b.toArray⟩
theorem bl_length (l : List ByteArray) : (bl l).length = l.length := List.length_map ..
theorem bl_lb (l : List (List UInt8)) : bl (lb l) = l := by
  unfold bl lb
  rw [List.map_map]
  conv => rhs; rw [← List.map_id l]
  rfl
theorem encs_bl (l : List ByteArray) : encs Value.string l = (bl l).map encStr := by
  unfold encs bl
  rw [List.map_map]
  exact List.map_congr_left fun x _ => by simp
theorem encs_lb (l : List (List UInt8)) : encs Value.string (lb l) = l.map encStr := by rw [encs_bl, bl_lb]
/-- What slices.Sort makes of a list, and slices.Compact. -/
def sortB (l : List ByteArray) : List ByteArray := lb ((bl l).mergeSort fun x y => decide (x ≤ y))
def compactB (l : List ByteArray) : List ByteArray := lb (Lib.compact (bl l))
theorem sortB_length (l : List ByteArray) : (sortB l).length = l.length := by simp [sortB, lb, bl]
theorem compact_le (l : List (List UInt8)) : (Lib.compact l).length ≤ l.length := by
  unfold Lib.compact Lib.compactUpTo
  rw [List.length_map]
  exact Nat.le_trans (List.length_filter_le _ _) (by simp)

theorem sort_calls (v : Value) (l : List ByteArray) (base : Nat) (w W : World) (hR : Kd.R Kd.string 9 W base (fun _ => True) v l) (hB : Below base w W) (hbase : base ≤ W.heap.size) (hl : l.length ≤ 1000000) :
    Calls Try.prog 52 #[v] W fun e w' => e = .returned (.tuple #[]) ∧ Kd.R Kd.string 9 w' base (fun _ => True) v (sortB l) ∧ Below base w w' := by
  have ho := Kd.own_of_R hR
  rw [encs_bl] at ho
  rcases ho.2 with ⟨rfl, h0⟩ | ⟨g, cap, cur, rfl, hg, hb, h1, h2, h3, h4⟩
  · refine (Try.slices_Sort_string_none none 0 W).mono ?_
    rintro e w' ⟨rfl, rfl⟩
    obtain rfl : l = [] := List.length_eq_zero_iff.1 h0
    exact ⟨rfl, by simpa [sortB, lb, bl] using hR, hB⟩
  · have hH : Holds encStr W g 0 (bl l).toArray := holds_of_block hb (by rw [bl_length]; simpa using h4)
    have hlt := (Array.getElem?_eq_some_iff.1 hb).1
    have hcall := Try.slices_Sort_string g 0 cap (bl l) W hH hlt (by rw [bl_length]; omega)
    rw [bl_length] at hcall
    refine hcall.mono ?_
    rintro e w' ⟨rfl, n, os, rfl⟩
    refine ⟨rfl, ?_, hB.grown (grownBy_sorted _) hbase (fun k hk => by injection hk with hk; omega)⟩
    refine Kd.R_of_own ?_ (fun _ _ => trivial)
    rw [sortB_length]
    unfold sortB
    rw [encs_lb]
    have := ownsRow_sorted (n := n) (os := os) (ss := bl l) (ts := (bl l).mergeSort fun x y => decide (x ≤ y)) (by simp) hg hb (by rw [bl_length]; exact h1) h2 h3
    rw [bl_length] at this
    exact this
theorem compact_calls (v : Value) (l : List ByteArray) (base : Nat) (w W : World) (hR : Kd.R Kd.string 9 W base (fun _ => True) v l) (hB : Below base w W) (hbase : base ≤ W.heap.size) (hl : l.length ≤ 1000000) :
    Calls Try.prog 53 #[v] W fun e w' => ∃ v', e = .returned v' ∧ Kd.R Kd.string 9 w' base (fun _ => True) v' (compactB l) ∧ Below base w w' := by
  have ho := Kd.own_of_R hR
  rw [encs_bl] at ho
  rcases ho.2 with ⟨rfl, h0⟩ | ⟨g, cap, cur, rfl, hg, hb, h1, h2, h3, h4⟩
  · refine (Try.slices_Compact_string_empty none 0 W).mono ?_
    rintro e w' ⟨rfl, rfl⟩
    obtain rfl : l = [] := List.length_eq_zero_iff.1 h0
    exact ⟨_, rfl, by simpa [compactB, lb, bl, Lib.compact, Lib.compactUpTo] using hR, hB⟩
  · have hH : Holds encStr W g 0 (bl l).toArray := holds_of_block hb (by rw [bl_length]; simpa using h4)
    have hcall := Try.slices_Compact_string g 0 cap (bl l) W hH (by rw [bl_length]; omega) (by rw [bl_length]; exact h1)
    rw [bl_length] at hcall
    have hle := compact_le (bl l)
    rw [bl_length] at hle
    refine hcall.mono ?_
    rintro e w' ⟨rfl, q, rfl⟩
    have hgrow : ∀ w : World, grow w #[] = w := fun w => by simp [grow]
    obtain ⟨ts, hts⟩ : ∃ ts, ts = Lib.compact (bl l) ++ List.replicate (l.length - (Lib.compact (bl l)).length) [] := ⟨_, rfl⟩
    have htl : ts.length = l.length := by rw [hts, List.length_append, List.length_replicate]; omega
    rw [← hts]
    have hB' := hB.grown (grownBy_sorted (w := W) (g := g) (n := q) (os := #[]) ts.toArray) hbase (fun k hk => by injection hk with hk; omega)
    have how := ownsRow_sorted (n := q) (os := #[]) (ss := bl l) (ts := ts) (by rw [htl, bl_length]) hg hb (by rw [bl_length]; exact h1) h2 h3
    rw [hgrow] at hB' how
    rw [bl_length, ← encs_lb] at how
    refine ⟨_, rfl, ?_, hB'⟩
    have hlb : (lb ts).length = l.length := by simp [lb, htl]
    have hfull : Kd.R Kd.string 9 (putRow encStr (Sort.ahead W q) g 0 ts.toArray) base (fun _ => True) (.slice (some ⟨g, 0, none⟩) l.length cap) (lb ts) := Kd.R_of_own (by rw [hlb]; exact how) (fun _ _ => trivial)
    have := Kd.R_take hfull (m := (Lib.compact (bl l)).length) (by rw [hlb]; exact hle)
    have e : (lb ts).take (Lib.compact (bl l)).length = compactB l := by
      rw [hts]
      simp [lb, compactB]
    rw [e] at this
    exact this
/-- What PodsIn makes of the pods, in their order in the list. -/
def podsEnd (l : List ByteArray) : Option (List ByteArray) := if l.length ≤ 1000000 then some (compactB (sortB l)) else none
end Go.Proofs.Ytebmlghhgccloaa.Pods
