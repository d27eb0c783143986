/-
slices.ContainsFunc over samples, with impl.ParseScrape's closure: is there a sample with that pod, metric and time? The contract is the kit's, laid at this program by hand; the closure is walked here.
Conditions: those that each theorem names.
-/
import Derived.Shelf.SlicesQ.IndexFunc
import Derived.Shelf.SlGeneric
import Derived.Handy
import Derived.Test.YtjelbcdloocacaaGreatDoorSGiven
import Derived.Test.YtjelbcdloocacaaGreatDoorSQAx0
namespace Go.Proofs.YtjelbcdloocacaaGreatDoor.Contains
open Go Go.RowKit Go.Shelf Go.Lib Go.Proofs Go.Proofs.YtjelbcdloocacaaGreatDoor.QA Go.Proofs.YtjelbcdloocacaaGreatDoorW.PrintWords Go.Proofs.YtjelbcdloocacaaGreatDoorW.PrintLast Go.Proofs.YtjelbcdloocacaaGreatDoorW.PrintMore

def ren : Go.Shelf.Ren := ⟨fun | 6 => 30 | 8 => 16 | n => n, fun | 23 => 34 | 25 => 38 | n => n, fun n => n⟩
theorem lays : SlLaysH0.n8 Tryz.prog ren := {
  mixed := by kernel_rfl
  f6 := ⟨"slices.IndexFunc[[]loop.example/g00808/impl.Sample,loop.example/g00808/impl.Sample]", by decide, Tryz.func30.trans (congrArg some (by kernel_rfl))⟩
  f8 := ⟨"slices.ContainsFunc[[]loop.example/g00808/impl.Sample,loop.example/g00808/impl.Sample]", by decide, Tryz.func16.trans (congrArg some (by kernel_rfl))⟩
  t0 := Tryz.underlying0
  a0 := Tryz.isAgg0
  z0 := Tryz.sizeOf0
  v0 := Tryz.zeroValue0
  t3 := Tryz.underlying3
  a3 := Tryz.isAgg3
  z3 := Tryz.sizeOf3
  v3 := Tryz.zeroValue3
  t4 := Tryz.underlying4
  a4 := Tryz.isAgg4
  z4 := Tryz.sizeOf4
  v4 := Tryz.zeroValue4
  t22 := Tryz.underlying22
  a22 := Tryz.isAgg22
  z22 := Tryz.sizeOf22
  v22 := Tryz.zeroValue22
  t25 := Tryz.underlying38
  a25 := Tryz.isAgg38
  z25 := Tryz.sizeOf38
  v25 := Tryz.zeroValue38 }

def enc (x : S34) : List Value := [.string x.f0, .string x.f1, .int .i64 x.f2, .int .i64 x.f3]
def same (p m : ByteArray) (t : Int) (x : S34) : Bool := x.f0.toList == p.toList && (x.f1.toList == m.toList && x.f3 == t)
instance : Inhabited S34 := ⟨z34⟩
set_option maxHeartbeats 4000000 in
theorem closure (gb : Nat) (p m : ByteArray) (t : Int) (w : World) (hB : gb < w.heap.size) (h0 : w.cell? ⟨gb, 0, none⟩ = some (.string p)) (h1 : w.cell? ⟨gb, 1, none⟩ = some (.string m)) (h3 : w.cell? ⟨gb, 3, none⟩ = some (.int .i64 t)) :
    PredBelow Tryz.prog 17 #[.pointer (some ⟨gb, 0, none⟩)] (fun x => .agg (enc x).toArray) (same p m t) w := fun W x hb => by
  have c0 : W.cell? ⟨gb, 0, none⟩ = some (.string p) := (hb.cell (p := ⟨gb, 0, none⟩) hB).trans h0
  have c1 : W.cell? ⟨gb, 1, none⟩ = some (.string m) := (hb.cell (p := ⟨gb, 1, none⟩) hB).trans h1
  have c3 : W.cell? ⟨gb, 3, none⟩ = some (.int .i64 t) := (hb.cell (p := ⟨gb, 3, none⟩) hB).trans h3
  have hBW : gb < W.heap.size := Nat.lt_of_lt_of_le hB hb.size
  have hne : gb ≠ W.heap.size := by omega
  clear h0 h1 h3
  show Calls Tryz.prog 17 #[.agg #[.string x.f0, .string x.f1, .int .i64 x.f2, .int .i64 x.f3], .pointer (some ⟨gb, 0, none⟩)] W _
  obtain ⟨x0, x1, x2, x3⟩ := x
  unfold same
  by_cases e0 : x0.toList = p.toList
  · have e0b : (x0.toList == p.toList) = true := beq_iff_eq.mpr e0
    by_cases e1 : x1.toList = m.toList
    · have e1b : (x1.toList == m.toList) = true := beq_iff_eq.mpr e1
      by_cases e3 : x3 = t
      · subst e3
        clear e0 e1
        go_enter Tryz.func17, Tryz.ntmps17
        go_wp2
        go_ret
        exact ⟨by simp_all, hb.alloc hb.size _⟩
      · have e3b : (x3 == t) = false := beq_eq_false_iff_ne.mpr e3
        clear e0 e1
        go_enter Tryz.func17, Tryz.ntmps17
        go_wp2
        go_ret
        exact ⟨by simp_all, hb.alloc hb.size _⟩
    · have e1b : (x1.toList == m.toList) = false := beq_eq_false_iff_ne.mpr e1
      clear e0
      go_enter Tryz.func17, Tryz.ntmps17
      go_wp2
      go_ret
      exact ⟨by simp_all, hb.alloc hb.size _⟩
  · have e0b : (x0.toList == p.toList) = false := beq_eq_false_iff_ne.mpr e0
    go_enter Tryz.func17, Tryz.ntmps17
    go_wp2
    go_ret
    exact ⟨by simp_all, hb.alloc hb.size _⟩

theorem index_empty (A : Option Addr) (c g : Nat) (lb : Array Value) (w : World) :
    Calls Tryz.prog 30 #[.slice A 0 c, .func (.func g) #[] lb] w fun e w' => e = .returned (.int .i64 (-1)) ∧ w' = w := by
  go_enter Tryz.func30, Tryz.ntmps30
  go_wp2
  go_rounds 1
  go_ret
  exact ⟨rfl, rfl⟩
/-- slices.ContainsFunc with that closure, told as the printed functions are told. -/
def slices_ContainsFunc.f (l : List S34) (p m : ByteArray) (_v t : Int) : Option Bool := some (l.any (same p m t))
theorem slices_ContainsFunc.calls (A : Option Addr) (c : Nat) (l : List S34) (p m : ByteArray) (v t : Int) (r : Bool) (w : World) (gb : Nat) (hr0 : Kd.C k34 w A l.length l) (hc0 : l.length ≤ c) (hB : gb < w.heap.size) (h0 : w.cell? ⟨gb, 0, none⟩ = some (.string p)) (h1 : w.cell? ⟨gb, 1, none⟩ = some (.string m)) (h3 : w.cell? ⟨gb, 3, none⟩ = some (.int .i64 t)) (h : slices_ContainsFunc.f l p m v t = some r) :
    Calls Tryz.prog 16 #[.slice A l.length c, .func (.func 17) #[] #[.pointer (some ⟨gb, 0, none⟩)]] w fun e w' => e = .returned (.bool r) ∧ Below w.heap.size w w' := by
  obtain rfl := Option.some.inj h
  have eg : ∀ args w, (callFunc 17 args).run Tryz.prog w = .ok (.enter 17 args) w := enters_of Tryz.func17 (by kernel_rfl) rfl
  by_cases hn : 0 < l.length
  · obtain ⟨ad, rfl, hc⟩ := hr0.2.2 hn
    obtain ⟨blk, off, sp⟩ := ad
    -- the elements' cells
    have hcell : ∀ j, j < l.length → ∀ i u, (enc l[j]!)[i]? = some u → w.cell? ((⟨blk, off, sp⟩ : Addr).add (j * 4 + i)) = some u := by
      intro j hj i u hu
      have e : l[j]! = l[j] := getElem!_pos l j hj
      obtain ⟨cs, _, hK, hcs⟩ := hc j _ (List.getElem?_eq_getElem hj)
      obtain rfl := k34_open hK
      rw [e] at hu
      exact hcs i u hu
    have hsp : sp = none := by
      have := hcell 0 hn 0 _ rfl
      have h' : (⟨blk, off, sp⟩ : Addr).spot = none := Given.flat_of_cell (by simpa [Addr.add] using this)
      exact h'
    subst hsp
    have hblk : blk < w.heap.size := by
      have := hcell 0 hn 0 _ rfl
      have h' := Given.lt_of_cell (by simpa [Addr.add] using this)
      simpa using h'
    have hcon := AnyQ.slices_ContainsFunc lays 4 Tryz.isAgg34 Tryz.sizeOf34 enc (fun _ => rfl) (same p m t) 17 #[.pointer (some ⟨gb, 0, none⟩)] eg blk off l.length c l w
      (closure gb p m t w hB h0 h1 h3) (Nat.le_refl _) hr0.2.1 hblk (fun j hj i u hu => by
        have := hcell j hj i u hu
        rw [Given.add_flat] at this
        rw [Nat.add_assoc]
        exact this)
    rw [List.take_length] at hcon
    exact hcon
  · obtain rfl := List.length_eq_zero_iff.1 (Nat.le_zero.1 (Nat.not_lt.1 hn))
    go_enter Tryz.func16, Tryz.ntmps16
    go_wp2_with (go_at_call 30; refine (index_empty _ _ _ _ _).mono ?_; rintro e w' ⟨rfl, rfl⟩)
    go_ret
    exact ⟨rfl, Below.refl _ _⟩
end Go.Proofs.YtjelbcdloocacaaGreatDoor.Contains
