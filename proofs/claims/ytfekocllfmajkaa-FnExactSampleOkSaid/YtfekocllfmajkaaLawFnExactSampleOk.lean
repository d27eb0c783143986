/-
The law FnExactSampleOk answers true for every sample: the program's SampleOk and the reference's return the same bool, and the argument stays as it was.
Conditions: none beyond the strings' size in the model (2^47 - 4096 bytes each).
-/
import Derived.Test.YtfekocllfmajkaaRows
import Derived.Test.YtfekocllfmajkaaPFnExactSampleOkx1
import Derived.Test.YtfekocllfmajkaaPureFnExactSampleOk
import Derived.Test.YtfekocllfmajkaaArgs
import Derived.WalkKit
import Derived.ProofKit
import Derived.OpenShut
import Derived.ShutString
import Derived.ChangeOld
import Derived.Below
import Derived.SizedLaws
namespace Go.Proofs.Ytfekocllfmajkaa.fnExactSampleOk
open Go.ChangeShapes Go.WideShapes Go.ChangeAt Go.RowKit
open Go.Proofs.Ytfekocllfmajkaa.Args
set_option linter.unusedVariables false
theorem own : ownKnob Try.prog.godebug = none := by kernel_rfl
theorem laidOut : laidOutB Try.prog = true := by kernel_rfl
set_option maxRecDepth 100000 in
theorem lifted (os : Os) (started : os.Started) (H : Type) (enc : TypeId × Value → H) :
    ReturnsInHanded {} Try.checked os 10 .any (Rows.fnExactSampleOkSpec.pre6 enc Try.prog Try.f10 Rows.fnExactSampleOkRow.domain false) (Rows.fnExactSampleOkSpec.post enc Try.prog Try.f10 false true false false) := by
  refine returnsInHanded_of_change_sized (C := Try.checked) own started (by kernel_rfl) Try.func10
    (ChangeSpec.witness6 (enc := enc) (C := Try.checked) false ⟨#[], #[.agg #[.string ByteArray.empty, .string ByteArray.empty, .int .i64 0, .int .i64 0]], []⟩ 8 (by kernel_rfl) (by kernel_rfl) (by kernel_rfl) (by kernel_rfl)) ?_
  intro W base args ds gs before hval0 hW hcnd hsz0 _
  have hsz : (DataW.weightsEach Try.prog (Try.f10.params.toList ++ Rows.fnExactSampleOkSpec.plain.varTypes Try.prog) (ds ++ gs)).all (· ≤ reachBytes) = true := hsz0
  have hval : ∀ (j : Nat) t v, Try.f10.params[j]? = some t → args[j]? = some v → Value.okWide Try.prog W .any base t v := hval0
  have hW' := hW
  obtain ⟨p, q, hA0, hV, rfl, hfz, hnd⟩ := hW
  have hA : DataW.TrodAll enc Try.prog W 0 (fun _ => true) true Try.f10.params.toList args.toList ds p := hA0
  rw [Try.params10] at hA hval hsz
  obtain ⟨v0, vs0, d0, ds0, p0, q0, hargs, rfl, rfl, h0, r0⟩ := trodAll_cons hA
  obtain ⟨rfl, rfl, rfl⟩ := trodAll_nil r0
  obtain rfl : args = #[v0] := by cases args; simp_all
  obtain ⟨rfl, rfl⟩ := trodVars_none hV
  have k0 := h0
  have lt0 : ∀ x ∈ p0, x.block < W.heap.size := by obtain ⟨m, hm⟩ := k0; exact DataW.trod_lt m _ _ _ hm
  obtain ⟨s0, s1, n2, n3, rfl, hw⟩ := open_sample Try.underlying33 (by kernel_rfl) (by kernel_rfl) Try.underlying9 Try.underlying9 Try.underlying3 Try.underlying3 (hval 0 _ v0 rfl rfl) h0
  have y0 : s0.size ≤ 140737488351232 := weight_fits hsz (j := 0) rfl rfl (hw _ (.inl rfl))
  have y1 : s1.size ≤ 140737488351232 := weight_fits hsz (j := 0) rfl rfl (hw _ (.inr rfl))
  clear hA0 hval0 hsz0 hsz hw
  obtain ⟨k, hk⟩ := Pure.FnExactSampleOk s0 s1 n2 n3 y0 y1
  refine (PFnExactSampleOk.laws_FnExactSampleOk.calls k s0 s1 n2 n3 true W hk).mono fun e W' ⟨he, bel⟩ => ?_
  subst he
  exact ⟨_, rfl, _, _, _, [], _, [], hW', trodAll_mk1 (shut_bool Try.underlying4 _), (trodAll_cons_mk (Below.trod laidOut (by kernel_rfl) (of_decide_eq_true (by kernel_rfl)) k0 bel lt0) trodAll_mk0), rfl, bel.frame _, fun h => by cases h⟩
theorem over : Rows.fnExactSampleOkRow.holds Try.pinned (OpenSpec.ofChange Rows.fnExactSampleOkSpec) :=
  OpenClaim.holds_of_wide 10 Try.f10 rfl rfl rfl rfl rfl rfl rfl ⟨rfl, rfl, rfl, rfl, rfl⟩ rfl rfl rfl rfl rfl (by kernel_rfl) Try.func10 (by kernel_rfl)
    (of_decide_eq_true (by kernel_rfl)) (by unfold Func.isWrapper; first | (rw [if_pos (by decide +kernel)]; kernel_rfl) | (rw [if_neg (by decide +kernel)]; exact ⟨rfl, rfl⟩))
    (fun os started H enc _ => lifted os started H enc)
theorem proved : Rows.FnExactSampleOkSaid := over
end Go.Proofs.Ytfekocllfmajkaa.fnExactSampleOk
namespace Go.Proofs.Ytfekocllfmajkaa
/-- The row, under a short name, for the claim. -/
theorem fnExactSampleOk_holds : Rows.FnExactSampleOkSaid := fnExactSampleOk.proved
#print axioms fnExactSampleOk_holds
end Go.Proofs.Ytfekocllfmajkaa
