/-
An argument that is a sample (two strings and two ints in a struct), or a slice of such, opened to its cells.
Conditions: none of our own; the sizes are those of the model's reach.
-/
import Derived.Deep.Slices
import Derived.Deep.Fields
import Derived.ChangeSame
import Derived.SizedLaws
import Derived.Lib.SmallJoins
import Derived.ChangeMaps5
import Derived.ProofKit
import Derived.OpenShut
import Derived.ShutString
namespace Go.Proofs.Ytebmlghhgccloaa.Args
open Go.ChangeShapes Go.WideShapes Go.Deep Go.Joins
section
variable {H : Type} {enc : TypeId × Value → H} {P : Program} {w : World} {base : Nat} {spare : Nat → Bool} {held : Bool}
theorem open_slice_fields {t e : TypeId} {fs : Array Field} {fuel : Nat} {cs : List Value} {x : DataW H × List MemPlace} (ht : P.underlying t = some (.slice e)) (he : P.underlying e = some (.struct fs))
    (hone : oneCellFields P fs = true) (hC : P.cellsOf e = fs.size) (h : DataW.trod enc P w base spare held fuel t cs = some x) :
    (cs = [.slice none 0 0] ∧ x = (.nil, [])) ∨
    ∃ (a : Addr) (len cap m : Nat) (D : Nat → DataW H) (Pl : Nat → List MemPlace), cs = [.slice (some a) len cap] ∧ base ≤ a.block ∧ len ≤ cap ∧ cap ≤ maxLen ∧ m = (if spare a.block then cap else len) ∧
      x = (.slice ((List.range len).map D) ((List.range (m - len)).map fun j => D (len + j)), MemPlace.row a (m * fs.size) ++ (List.range m).flatMap Pl) ∧
      ∀ i, i < m → ∃ (ys : List (DataW H × List MemPlace)) (n : Nat), D i = .agg (ys.map (·.1)) ∧ Pl i = ys.flatMap (·.2) ∧ ys.length = fs.size ∧
        ∀ (j : Nat) (f : Field), fs[j]? = some f → ∃ (v : Value) (y : DataW H × List MemPlace), w.cell? (a.add (i * fs.size + j)) = some v ∧ ys[j]? = some y ∧ DataW.trod enc P w base spare held n f.type [v] = some y := by
  rcases open_slice ht h with h0 | ⟨a, len, cap, m, n, D, Pl, hcs, hb, hl, hm, hmm, hx, hi⟩
  · exact .inl h0
  · refine .inr ⟨a, len, cap, m, D, Pl, hcs, hb, hl, hm, hmm, by rw [hC] at hx; exact hx, fun i him => ?_⟩
    obtain ⟨cs', hc, ht'⟩ := hi i him
    rw [hC] at hc
    obtain ⟨ys, n', hn', hy, hlen, hyl, hf⟩ := DataW.trod_struct he ht'
    obtain ⟨_, hcl, hat⟩ := World.cells?_some hc
    simp only [Prod.mk.injEq] at hy
    refine ⟨ys, n', hy.1, hy.2, hyl, fun j f hj => ?_⟩
    obtain ⟨ho, hk⟩ := hone_of hone j f hj
    have hjl : j < fs.size := (Array.getElem?_eq_some_iff.1 hj).1
    have hcell := hat j hjl
    have hv : cs'[j]? = some (cs'[j]'(by omega)) := List.getElem?_eq_getElem (by omega)
    have h1 := hf j f hj
    rw [ho, hk] at h1
    have hone' : (cs'.drop j).take 1 = [cs'[j]'(by omega)] := by
      rw [List.drop_eq_getElem_cons (by omega)]
      rfl
    rw [hone'] at h1
    have hys : ys[j]? = some (ys[j]'(by omega)) := List.getElem?_eq_getElem (by omega)
    refine ⟨_, _, ?_, hys, h1.trans hys⟩
    rw [← Go.Deep.add_add, hcell, hv]
/-- A weight of a part of an aggregate is a weight of the whole. -/
theorem weight_agg {t t' : TypeId} {fs : Array Field} {ds : List (DataW H)} {d : DataW H} {j n : Nat} (hs : P.underlying t = some (.struct fs)) (ht : (fs.toList.map (·.type))[j]? = some t') (hd : ds[j]? = some d) (hn : n ∈ d.weights P t') : n ∈ (DataW.agg ds).weights P t := by
  simp only [DataW.weights, hs]
  exact DataW.weights_mem_each ht hd n hn
theorem weight_all {e : TypeId} {n : Nat} : ∀ {ds : List (DataW H)} {d : DataW H}, d ∈ ds → n ∈ d.weights P e → n ∈ DataW.weightsAll P e ds
  | x :: xs, d, hd, hn => by
    simp only [DataW.weightsAll, List.mem_append]
    rcases List.mem_cons.1 hd with rfl | h
    · exact .inl hn
    · exact .inr (weight_all h hn)
  | [], _, hd, _ => by cases hd
theorem weight_elem {t e : TypeId} {n : Nat} {ds sp : List (DataW H)} {d : DataW H} (hu : P.underlying t = some (.slice e)) (hd : d ∈ ds) (hn : n ∈ d.weights P e) : n ∈ (DataW.slice ds sp).weights P t := by
  simp only [DataW.weights, hu]
  exact List.mem_cons_of_mem _ (List.mem_append_left _ (weight_all hd hn))
theorem weight_string (t : TypeId) (s : ByteArray) : s.size ∈ (DataW.lit (.string s.data.toList) : DataW H).weights P t := by simp [DataW.weights]
/-- A sample as an argument by value. -/
theorem open_sample {r : Reach} {b0 : Nat} {t : TypeId} {f0 f1 f2 f3 : Field} {v : Value} {d : DataW H} {p : List MemPlace} (hs : P.underlying t = some (.struct #[f0, f1, f2, f3])) (hone : oneCellFields P #[f0, f1, f2, f3] = true) (hC : P.cellsOf t = 4)
    (h0 : P.underlying f0.type = some .string) (h1 : P.underlying f1.type = some .string) (h2 : P.underlying f2.type = some (.int .i64)) (h3 : P.underlying f3.type = some (.int .i64))
    (hv : Value.okWide P w r b0 t v) (h : DataW.Trod enc P w base spare held t v d p) :
    ∃ (s0 s1 : ByteArray) (n2 n3 : Int), v = .agg #[.string s0, .string s1, .int .i64 n2, .int .i64 n3] ∧ (∀ n, n = s0.size ∨ n = s1.size → n ∈ d.weights P t) := by
  obtain ⟨v0, v1, v2, v3, y0, y1, y2, y3, n, rfl, rfl, rfl, t0, t1, t2, t3⟩ := open_agg4 hs hone hC hv h
  obtain ⟨s0, e0, rfl, _⟩ := DataW.trod_string h0 t0
  obtain ⟨s1, e1, rfl, _⟩ := DataW.trod_string h1 t1
  obtain ⟨n2, e2, rfl, _⟩ := DataW.trod_int h2 t2
  obtain ⟨n3, e3, rfl, _⟩ := DataW.trod_int h3 t3
  obtain ⟨rfl⟩ : v0 = _ := List.head_eq_of_cons_eq e0
  obtain ⟨rfl⟩ : v1 = _ := List.head_eq_of_cons_eq e1
  obtain ⟨rfl⟩ : v2 = _ := List.head_eq_of_cons_eq e2
  obtain ⟨rfl⟩ : v3 = _ := List.head_eq_of_cons_eq e3
  refine ⟨s0, s1, n2, n3, rfl, fun n hn => ?_⟩
  rcases hn with rfl | rfl
  · exact weight_agg (j := 0) (t' := f0.type) hs (by simp) (by simp) (weight_string _ _)
  · exact weight_agg (j := 1) (t' := f1.type) hs (by simp) (by simp) (weight_string _ _)
/-- A slice of samples as an argument. -/
theorem open_samples {t e : TypeId} {f0 f1 f2 f3 : Field} {A : Option Addr} {len cap : Nat} {d : DataW H} {p : List MemPlace} (ht : P.underlying t = some (.slice e)) (hs : P.underlying e = some (.struct #[f0, f1, f2, f3])) (hone : oneCellFields P #[f0, f1, f2, f3] = true) (hC : P.cellsOf e = 4)
    (h0 : P.underlying f0.type = some .string) (h1 : P.underlying f1.type = some .string) (h2 : P.underlying f2.type = some (.int .i64)) (h3 : P.underlying f3.type = some (.int .i64))
    (h : DataW.Trod enc P w base spare held t (.slice A len cap) d p) :
    ∃ (l : List (ByteArray × ByteArray × Int × Int)), l.length = len ∧ len ≤ cap ∧ cap ≤ maxLen ∧ (∀ x ∈ l, ∀ n, n = x.1.size ∨ n = x.2.1.size → n ∈ d.weights P t) ∧
      (0 < len → ∃ a, A = some a ∧ ∀ j x, l[j]? = some x → w.cell? (a.add (j * 4)) = some (.string x.1) ∧ w.cell? (a.add (j * 4 + 1)) = some (.string x.2.1) ∧ w.cell? (a.add (j * 4 + 2)) = some (.int .i64 x.2.2.1) ∧ w.cell? (a.add (j * 4 + 3)) = some (.int .i64 x.2.2.2)) := by
  obtain ⟨fuel, hf⟩ := h
  rcases open_slice_fields ht hs hone (by rw [hC]; rfl) hf with ⟨hcs, _⟩ | ⟨a, len', cap', m, D, Pl, hcs, _, hl, hm, hmm, hx, hi⟩
  · simp [Value.cells] at hcs
    obtain ⟨rfl, rfl, rfl⟩ := hcs
    exact ⟨[], rfl, Nat.le_refl _, Nat.zero_le _, (fun _ hx => by cases hx), (fun h => by omega)⟩
  · simp [Value.cells] at hcs
    obtain ⟨rfl, rfl, rfl⟩ := hcs
    have hle : len ≤ m := by rw [hmm]; split <;> omega
    have hall : ∀ i, i < len → ∃ x : ByteArray × ByteArray × Int × Int, (w.cell? (a.add (i * 4)) = some (.string x.1) ∧ w.cell? (a.add (i * 4 + 1)) = some (.string x.2.1) ∧ w.cell? (a.add (i * 4 + 2)) = some (.int .i64 x.2.2.1) ∧ w.cell? (a.add (i * 4 + 3)) = some (.int .i64 x.2.2.2)) ∧
        ∀ n, n = x.1.size ∨ n = x.2.1.size → n ∈ (D i).weights P e := by
      intro i him
      obtain ⟨ys, n, hD, _, hyl, hfi⟩ := hi i (by omega)
      obtain ⟨v0, y0, c0, g0, t0⟩ := hfi 0 f0 rfl
      obtain ⟨v1, y1, c1, g1, t1⟩ := hfi 1 f1 rfl
      obtain ⟨v2, y2, c2, g2, t2⟩ := hfi 2 f2 rfl
      obtain ⟨v3, y3, c3, g3, t3⟩ := hfi 3 f3 rfl
      obtain ⟨s0, e0, rfl, _⟩ := DataW.trod_string h0 t0
      obtain ⟨s1, e1, rfl, _⟩ := DataW.trod_string h1 t1
      obtain ⟨n2, e2, rfl, _⟩ := DataW.trod_int h2 t2
      obtain ⟨n3, e3, rfl, _⟩ := DataW.trod_int h3 t3
      obtain ⟨rfl⟩ : v0 = _ := List.head_eq_of_cons_eq e0
      obtain ⟨rfl⟩ : v1 = _ := List.head_eq_of_cons_eq e1
      obtain ⟨rfl⟩ : v2 = _ := List.head_eq_of_cons_eq e2
      obtain ⟨rfl⟩ : v3 = _ := List.head_eq_of_cons_eq e3
      refine ⟨(s0, s1, n2, n3), ⟨c0, c1, c2, c3⟩, fun q hq => ?_⟩
      rw [hD]
      rcases hq with rfl | rfl
      · exact weight_agg (j := 0) (t' := f0.type) hs (by simp) (by rw [List.getElem?_map, g0]; rfl) (weight_string _ _)
      · exact weight_agg (j := 1) (t' := f1.type) hs (by simp) (by rw [List.getElem?_map, g1]; rfl) (weight_string _ _)
    have hch : ∀ n, n ≤ len → ∃ l : List (ByteArray × ByteArray × Int × Int), l.length = n ∧ ∀ j x, l[j]? = some x → (w.cell? (a.add (j * 4)) = some (.string x.1) ∧ w.cell? (a.add (j * 4 + 1)) = some (.string x.2.1) ∧ w.cell? (a.add (j * 4 + 2)) = some (.int .i64 x.2.2.1) ∧ w.cell? (a.add (j * 4 + 3)) = some (.int .i64 x.2.2.2)) ∧
        ∀ q, q = x.1.size ∨ q = x.2.1.size → q ∈ (D j).weights P e := by
      intro n
      induction n with
      | zero => exact fun _ => ⟨[], rfl, fun j x hj => by simp at hj⟩
      | succ n ih =>
        intro hn
        obtain ⟨l, hl', hc⟩ := ih (by omega)
        obtain ⟨x, hx1, hx2⟩ := hall n (by omega)
        refine ⟨l ++ [x], by simp [hl'], fun j y hj => ?_⟩
        by_cases hjn : j < n
        · rw [List.getElem?_append_left (by omega)] at hj
          exact hc j y hj
        · have hjl : j < (l ++ [x]).length := (List.getElem?_eq_some_iff.1 hj).1
          simp only [List.length_append, List.length_cons, List.length_nil] at hjl
          obtain rfl : j = n := by omega
          rw [List.getElem?_append_right (by omega), hl', Nat.sub_self] at hj
          obtain rfl : x = y := by simpa using hj
          exact ⟨hx1, hx2⟩
    obtain ⟨l, hll, hc⟩ := hch len (Nat.le_refl _)
    refine ⟨l, hll, hl, hm, fun x hxm q hq => ?_, fun _ => ⟨a, rfl, fun j x hj => (hc j x hj).1⟩⟩
    obtain ⟨j, hj⟩ := List.getElem?_of_mem hxm
    have hjl : j < l.length := (List.getElem?_eq_some_iff.1 hj).1
    obtain ⟨hxd, _⟩ := Prod.mk.inj hx
    subst hxd
    refine weight_elem ht (d := D j) ?_ ((hc j x hj).2 q hq)
    exact List.mem_map.2 ⟨j, List.mem_range.2 (by omega), rfl⟩
theorem weight_fits {ts : List TypeId} {ds : List (DataW H)} (h : (DataW.weightsEach P ts ds).all (· ≤ reachBytes) = true) {j : Nat} {t : TypeId} {d : DataW H} (ht : ts[j]? = some t) (hd : ds[j]? = some d) {n : Nat} (hn : n ∈ d.weights P t) : n ≤ 140737488351232 := by
  have := List.all_eq_true.1 h _ (DataW.weights_mem_each ht hd n hn)
  exact of_decide_eq_true this
end
end Go.Proofs.Ytebmlghhgccloaa.Args
