/-
The law FnExactPrintScrape answers true for every list of samples: the program's PrintScrape and the reference's return the same text and flag, and the argument stays as it was.
Conditions: the list and its strings have the model's size (2^47 - 4096 bytes each at most); the package-level variables of Go's library that the row lists hold what the program's text lays (the card ties them).
-/
import Derived.Test.YtjelbcdloocacaaDoorRows
import Derived.Test.YtjelbcdloocacaaDoorCards
import Derived.Test.YtjelbcdloocacaaDoorTie
import Derived.Test.YtjelbcdloocacaaDoorLaid
import Derived.Test.YtjelbcdloocacaaDoorQAx
import Derived.Test.YtjelbcdloocacaaDoorPurePrint
import Derived.Test.YtjelbcdloocacaaDoorArgs
import Derived.WalkKit
import Derived.ProofKit
import Derived.OpenShut
import Derived.ShutString
import Derived.ChangeOld
import Derived.Below
import Derived.SizedLaws
import Derived.Lay
import Derived.PinnedBridge
import Derived.SevenTiedAt
import Derived.LaidOnce
namespace Go.Proofs.YtjelbcdloocacaaDoor.fnExactPrintScrape
open Go Go.ChangeShapes Go.WideShapes Go.ChangeAt Go.RowKit
open Go.ChangeMaps (open_string shut_string)
open Go.Proofs.YtjelbcdloocacaaDoor
set_option linter.unusedVariables false
theorem own : ownKnob Tryd.prog.godebug = none := by kernel_rfl
theorem laidOut : laidOutB Tryd.prog = true := by kernel_rfl
noncomputable def laid : List (String × DataW Unit) := Rows.fnExactPrintScrapeRow.laid
/-- A sample's four parts as the struct of the printed functions. -/
def toS (x : ByteArray × ByteArray × Int × Int) : QA.S28 := ⟨x.1, x.2.1, x.2.2.1, x.2.2.2⟩
theorem reads {W : World} {A : Option Addr} {l : List (ByteArray × ByteArray × Int × Int)} {L : List QA.S28} {n : Nat}
    (hcell : 0 < n → ∃ a, A = some a ∧ ∀ j x, l[j]? = some x → W.cell? (a.add (j * 4)) = some (.string x.1) ∧ W.cell? (a.add (j * 4 + 1)) = some (.string x.2.1) ∧ W.cell? (a.add (j * 4 + 2)) = some (.int .i64 x.2.2.1) ∧ W.cell? (a.add (j * 4 + 3)) = some (.int .i64 x.2.2.2))
    (hL : L = l.map toS) (hn : L.length = n) (hm : L.length ≤ 9223372036854775807) : Go.Proofs.YtjelbcdloocacaaDoorW.PrintWords.Kd.C QA.k28 W A L.length L := by
  refine ⟨rfl, hm, fun hp => ?_⟩
  obtain ⟨a, ha, hc⟩ := hcell (by omega)
  refine ⟨a, ha, fun j p hj => ⟨_, rfl, QA.k28_mk W p, fun i u hu => ?_⟩⟩
  rw [hL, List.getElem?_map] at hj
  obtain ⟨x, hx, rfl⟩ := Option.map_eq_some_iff.1 hj
  obtain ⟨c0, c1, c2, c3⟩ := hc j x hx
  match i, hu with
  | 0, hu => obtain rfl := Option.some.inj hu; exact c0
  | 1, hu => obtain rfl := Option.some.inj hu; exact c1
  | 2, hu => obtain rfl := Option.some.inj hu; exact c2
  | 3, hu => obtain rfl := Option.some.inj hu; exact c3
  | n + 4, hu => simp at hu
set_option maxRecDepth 100000 in
theorem lifted (os : Os) (started : os.Started) (H : Type) (enc : TypeId × Value → H) :
    ReturnsInHanded {} Tryd.checked os 6 .any (fun w args => (Rows.fnExactPrintScrapeSpec.pre enc Tryd.prog Tryd.f6 [] false w args ∧ laidMetH Tryd.prog laid w) ∧ sizedMet enc Tryd.prog Tryd.f6 (OpenSpec.ofChange Rows.fnExactPrintScrapeSpec) false w args)
      (Rows.fnExactPrintScrapeSpec.post enc Tryd.prog Tryd.f6 false true false false) := by
  refine Laid.returns_laid_shaped (C := Tryd.checked) (X := fun w _ => laidMetH Tryd.prog laid w) (fun _ _ _ hh h => h.of_heap hh) own started (by kernel_rfl) Tryd.func6
    (ChangeSpec.witness_shaped (enc := enc) (C := Tryd.checked) (os := os) (X := fun w _ => laidMetH Tryd.prog laid w) false (World.laidAll Tryd.prog os laid) #[.slice none 0 0] 8 (World.laidAll_os _ _ _)
      (World.shaped_of_ZipB (by kernel_rfl) (by kernel_rfl)) (by kernel_rfl) (by kernel_rfl) (by kernel_rfl)
      (by rw [MakeChecks.laidMetH_plain _ _ _ (by kernel_rfl)]; exact laidMet_laidAll _ (by kernel_rfl) (by kernel_rfl))) ?_
  intro W base args ds gs before hval0 hW hsz0 hL hS
  rw [MakeChecks.laidMetH_plain _ _ _ (by kernel_rfl)] at hL
  have hT : Given.Tabs W := Laid.tabs_of hL hS
  clear hL hS
  have hsz : (DataW.weightsEach Tryd.prog (Tryd.f6.params.toList ++ Rows.fnExactPrintScrapeSpec.plain.varTypes Tryd.prog) (ds ++ gs)).all (· ≤ reachBytes) = true := hsz0
  have hval : ∀ (j : Nat) t v, Tryd.f6.params[j]? = some t → args[j]? = some v → Value.okWide Tryd.prog W .any base t v := hval0
  have hW' := hW
  obtain ⟨p, q, hA0, hV, rfl, hfz, hnd⟩ := hW
  have hA : DataW.TrodAll enc Tryd.prog W 0 (fun _ => true) true Tryd.f6.params.toList args.toList ds p := hA0
  rw [Tryd.params6] at hA hval hsz
  obtain ⟨v0, vs0, d0, ds0, p0, q0, hargs, rfl, rfl, h0, r0⟩ := trodAll_cons hA
  obtain ⟨rfl, rfl, rfl⟩ := trodAll_nil r0
  obtain rfl : args = #[v0] := by cases args; simp_all
  obtain ⟨rfl, rfl⟩ := trodVars_none hV
  have k0 := h0
  have lt0 : ∀ x ∈ p0, x.block < W.heap.size := by obtain ⟨m, hm⟩ := k0; exact DataW.trod_lt m _ _ _ hm
  obtain ⟨a0, len0, cap0, rfl⟩ := okWide_slice Tryd.underlying34 (hval 0 _ v0 rfl rfl)
  obtain ⟨l, hlen, hcap, hmax, hw, hcell⟩ := Args.open_samples Tryd.underlying34 Tryd.underlying28 (by kernel_rfl) (by kernel_rfl) Tryd.underlying9 Tryd.underlying9 Tryd.underlying3 Tryd.underlying3 h0
  have fits : ∀ x ∈ l, ∀ n, n = x.1.size ∨ n = x.2.1.size → n ≤ 140737488351232 := fun x hx n hn => Args.weight_fits hsz (j := 0) rfl rfl (hw x hx n hn)
  obtain ⟨L, hL⟩ : ∃ L : List QA.S28, L = l.map toS := ⟨_, rfl⟩
  have hLl : L.length = len0 := by rw [hL, List.length_map, hlen]
  have hfit : PurePrint.Fit L := by
    intro x hx
    rw [hL] at hx
    obtain ⟨y, hy, rfl⟩ := List.mem_map.1 hx
    exact ⟨fits y hy _ (.inl rfl), fits y hy _ (.inr rfl)⟩
  have hm : L.length ≤ 9223372036854775807 := by rw [hLl]; unfold maxLen at hmax; omega
  have hC := reads hcell hL hLl hm
  subst hLl
  clear hA0 hval0 hsz0 hsz hw
  obtain ⟨k, hk⟩ := PurePrint.law_PrintScrape L hfit hm
  refine (QA.laws_FnExactPrintScrape.calls k a0 cap0 L true W hC hcap hT hk).mono fun e W' ⟨he, bel⟩ => ?_
  subst he
  exact ⟨_, rfl, _, _, _, [], _, [], hW', trodAll_mk1 (shut_bool Tryd.underlying4 _), (trodAll_cons_mk (Below.trod laidOut (by kernel_rfl) (of_decide_eq_true (by kernel_rfl)) k0 bel lt0) trodAll_mk0), rfl, bel.frame _, fun h => by cases h⟩
theorem holds : Rows.fnExactPrintScrapeRow.holds Tryd.pinned (OpenSpec.ofChange Rows.fnExactPrintScrapeSpec) :=
  OpenClaim.holds_of_wide 6 Tryd.f6 rfl rfl rfl rfl rfl rfl rfl ⟨rfl, rfl, rfl, rfl, rfl⟩ rfl rfl rfl rfl rfl (by kernel_rfl) Tryd.func6 (by kernel_rfl)
    (of_decide_eq_true (by kernel_rfl)) (by unfold Func.isWrapper; first | (rw [if_pos (by decide +kernel)]; kernel_rfl) | (rw [if_neg (by decide +kernel)]; exact ⟨rfl, rfl⟩))
    (fun os started H enc _ => lifted os started H enc)
theorem card_holds : Rows.FnExactPrintScrapeCardSaid :=
  Claim7.holds_tied_plain_at .later [] [.data, .data, .data, .data, .pinned] true (true, "9cd709e19cfc5edd235a8b6babac162bfb82dc42cb4d1d6e622a1bb99b1db20e") true holds (fun _ h => by cases h) (by kernel_rfl) (fun _ h => by cases h) fnExactPrintScrape_row_tie rfl ⟨rfl, rfl⟩ (by kernel_rfl) rfl
    (fun f fn hf hfn => by
      obtain rfl : f = 6 := Option.some.inj ((show Tryd.prog.funcNamed "loop.example/g00808/laws.FnExactPrintScrape" = some 6 by kernel_rfl).symm.trans hf) |>.symm
      obtain rfl : fn = Tryd.f6 := (Option.some.inj (Tryd.func6.symm.trans hfn)).symm
      exact ⟨by kernel_rfl, fun j t ht => by
        rw [Tryd.params6] at ht
        have hm : t ∈ [34] := by simpa using Array.mem_of_getElem? ht
        have hall : ([34].all fun u => !Tryd.prog.wantsStandIn u) = true := by kernel_rfl
        exact (show Tryd.prog.wantsStandIn t = false by simpa using List.all_eq_true.1 hall t hm)⟩)
    (by kernel_rfl)
end Go.Proofs.YtjelbcdloocacaaDoor.fnExactPrintScrape
namespace Go.Proofs.YtjelbcdloocacaaDoor
/-- The card, under a short name, for the claim. -/
theorem fnExactPrintScrape_holds : Rows.FnExactPrintScrapeCardSaid := fnExactPrintScrape.card_holds
#print axioms fnExactPrintScrape_holds
end Go.Proofs.YtjelbcdloocacaaDoor
