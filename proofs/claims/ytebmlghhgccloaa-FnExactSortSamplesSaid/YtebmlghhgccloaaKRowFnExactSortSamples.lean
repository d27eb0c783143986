/-
The program's SortSamples and the reference's return the same list, for every list of samples
Conditions: none beyond the sizes of the model (2^47 - 4096 bytes for each string and for the list).
-/
import Derived.Test.YtebmlghhgccloaaRows
import Derived.Test.YtebmlghhgccloaaKArgs
import Derived.WalkKit
import Derived.ProofKit
import Derived.OpenShut
import Derived.ShutString
import Derived.ChangeOld
import Derived.Below
import Derived.SizedLaws
import Derived.Test.YtebmlghhgccloaaKQSx0
import Derived.Test.YtebmlghhgccloaaKQSx8
import Derived.Test.YtebmlghhgccloaaKSortRef
import Derived.Test.YtebmlghhgccloaaKPureSort
namespace Go.Proofs.Ytebmlghhgccloaa.fnExactSortSamples
open Go.ChangeShapes Go.WideShapes Go.ChangeAt Go.RowKit
open Go.Proofs.Ytebmlghhgccloaa.Args
set_option linter.unusedVariables false
theorem own : ownKnob Try.prog.godebug = none := by kernel_rfl
theorem laidOut : laidOutB Try.prog = true := by kernel_rfl
/-- A sample's four parts as the struct of the printed functions. -/
def toS (x : ByteArray × ByteArray × Int × Int) : QS.S58 := ⟨x.1, x.2.1, x.2.2.1, x.2.2.2⟩
theorem reads {W : World} {A : Option Addr} {l : List (ByteArray × ByteArray × Int × Int)} {L : List QS.S58} {n : Nat}
    (hcell : 0 < n → ∃ a, A = some a ∧ ∀ j x, l[j]? = some x → W.cell? (a.add (j * 4)) = some (.string x.1) ∧ W.cell? (a.add (j * 4 + 1)) = some (.string x.2.1) ∧ W.cell? (a.add (j * 4 + 2)) = some (.int .i64 x.2.2.1) ∧ W.cell? (a.add (j * 4 + 3)) = some (.int .i64 x.2.2.2))
    (hL : L = l.map toS) (hn : L.length = n) (hm : L.length ≤ 9223372036854775807) : Go.Proofs.YtebmlghhgccloaaW.PrintWords.Kd.C QS.k58 W A L.length L := by
  refine ⟨rfl, hm, fun hp => ?_⟩
  obtain ⟨a, ha, hc⟩ := hcell (by omega)
  refine ⟨a, ha, fun j p hj => ⟨_, rfl, QS.k58_mk W p, fun i u hu => ?_⟩⟩
  rw [hL, List.getElem?_map] at hj
  obtain ⟨x, hx, rfl⟩ := Option.map_eq_some_iff.1 hj
  obtain ⟨c0, c1, c2, c3⟩ := hc j x hx
  match i, hu with
  | 0, hu => obtain rfl := Option.some.inj hu; exact c0
  | 1, hu => obtain rfl := Option.some.inj hu; exact c1
  | 2, hu => obtain rfl := Option.some.inj hu; exact c2
  | 3, hu => obtain rfl := Option.some.inj hu; exact c3
  | n + 4, hu => simp at hu
set_option maxRecDepth 100000 in
theorem lifted (os : Os) (started : os.Started) (H : Type) (enc : TypeId × Value → H) :
    ReturnsInHanded {} Try.checked os 4 .any (Rows.fnExactSortSamplesSpec.pre6 enc Try.prog Try.f4 Rows.fnExactSortSamplesRow.domain false) (Rows.fnExactSortSamplesSpec.post enc Try.prog Try.f4 false true false false) := by
  refine returnsInHanded_of_change_sized (C := Try.checked) own started (by kernel_rfl) Try.func4
    (ChangeSpec.witness6 (enc := enc) (C := Try.checked) false ⟨#[], #[.slice none 0 0], []⟩ 8 (by kernel_rfl) (by kernel_rfl) (by kernel_rfl) (by kernel_rfl)) ?_
  intro W base args ds gs before hval0 hW hcnd hsz0 _
  have hsz : (DataW.weightsEach Try.prog (Try.f4.params.toList ++ Rows.fnExactSortSamplesSpec.plain.varTypes Try.prog) (ds ++ gs)).all (· ≤ reachBytes) = true := hsz0
  have hval : ∀ (j : Nat) t v, Try.f4.params[j]? = some t → args[j]? = some v → Value.okWide Try.prog W .any base t v := hval0
  have hW' := hW
  obtain ⟨p, q, hA0, hV, rfl, hfz, hnd⟩ := hW
  have hA : DataW.TrodAll enc Try.prog W 0 (fun _ => true) true Try.f4.params.toList args.toList ds p := hA0
  rw [Try.params4] at hA hval hsz
  obtain ⟨v0, vs0, d0, ds0, p0, q0, hargs, rfl, rfl, h0, r0⟩ := trodAll_cons hA
  obtain ⟨rfl, rfl, rfl⟩ := trodAll_nil r0
  obtain rfl : args = #[v0] := by cases args; simp_all
  obtain ⟨rfl, rfl⟩ := trodVars_none hV
  have k0 := h0
  have lt0 : ∀ x ∈ p0, x.block < W.heap.size := by obtain ⟨m, hm⟩ := k0; exact DataW.trod_lt m _ _ _ hm
  obtain ⟨a0, len0, cap0, rfl⟩ := okWide_slice Try.underlying35 (hval 0 _ v0 rfl rfl)
  obtain ⟨l, hlen, hcap, hmax, hw, hcell⟩ := open_samples Try.underlying35 Try.underlying58 (by kernel_rfl) (by kernel_rfl) Try.underlying9 Try.underlying9 Try.underlying3 Try.underlying3 h0
  have fits : ∀ x ∈ l, ∀ n, n = x.1.size ∨ n = x.2.1.size → n ≤ 140737488351232 := fun x hx n hn => weight_fits hsz (j := 0) rfl rfl (hw x hx n hn)
  clear hA0 hval0 hsz0 hsz hw
  obtain ⟨L, hL⟩ : ∃ L : List QS.S58, L = l.map toS := ⟨_, rfl⟩
  have hLl : L.length = len0 := by rw [hL, List.length_map, hlen]
  have hfit : SortRef.Fit L := by
    intro x hx
    rw [hL] at hx
    obtain ⟨y, hy, rfl⟩ := List.mem_map.1 hx
    exact ⟨fits y hy _ (.inl rfl), fits y hy _ (.inr rfl)⟩
  have hm : L.length ≤ 9223372036854775807 := by rw [hLl]; unfold maxLen at hmax; omega
  have hC := reads hcell hL hLl hm
  obtain ⟨k, hk⟩ := PureSort.law_SortSamples L hfit hm
  subst hLl
  refine (QS.laws_FnExactSortSamples.calls k a0 cap0 L true W hC hcap hk).mono fun e W' ⟨he, bel⟩ => ?_
  subst he
  exact ⟨_, rfl, _, _, _, [], _, [], hW', trodAll_mk1 (shut_bool Try.underlying4 _), (trodAll_cons_mk (Below.trod laidOut (by kernel_rfl) (of_decide_eq_true (by kernel_rfl)) k0 bel lt0) trodAll_mk0), rfl, bel.frame _, fun h => by cases h⟩
theorem over : Rows.fnExactSortSamplesRow.holds Try.pinned (OpenSpec.ofChange Rows.fnExactSortSamplesSpec) :=
  OpenClaim.holds_of_wide 4 Try.f4 rfl rfl rfl rfl rfl rfl rfl ⟨rfl, rfl, rfl, rfl, rfl⟩ rfl rfl rfl rfl rfl (by kernel_rfl) Try.func4 (by kernel_rfl)
    (of_decide_eq_true (by kernel_rfl)) (by unfold Func.isWrapper; first | (rw [if_pos (by decide +kernel)]; kernel_rfl) | (rw [if_neg (by decide +kernel)]; exact ⟨rfl, rfl⟩))
    (fun os started H enc _ => lifted os started H enc)
theorem proved : Rows.FnExactSortSamplesSaid := over
end Go.Proofs.Ytebmlghhgccloaa.fnExactSortSamples
namespace Go.Proofs.Ytebmlghhgccloaa
/-- The row, under a short name, for the claim. -/
theorem fnExactSortSamples_holds : Rows.FnExactSortSamplesSaid := fnExactSortSamples.proved
#print axioms fnExactSortSamples_holds
end Go.Proofs.Ytebmlghhgccloaa
