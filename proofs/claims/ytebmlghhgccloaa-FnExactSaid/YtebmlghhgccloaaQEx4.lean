/- Functions of the program that laws of this seat use: each returns what the Lean function of its name tells (where it tells some answer). Conditions: those that each theorem names. Written by a program of this session (wip/print/myprint.py) out of Lean's print of the loaded functions. -/
import Derived.Test.YtebmlghhgccloaaQEx0
import Derived.Test.YtebmlghhgccloaaQEx1
import Derived.Test.YtebmlghhgccloaaQEx2
import Derived.Test.YtebmlghhgccloaaQEx3
namespace Go.Proofs.Ytebmlghhgccloaa.QE
open Go.RowKit Go.Proofs.YtebmlghhgccloaaW.PrintWords Go.Proofs.YtebmlghhgccloaaW.PrintLast Go.Proofs.YtebmlghhgccloaaW.PrintMore
attribute [local go_sem] max2_int min2_int max_two min_two max_three min_three max_four min_four   -- for this text's walks alone
set_option linter.unusedVariables false
set_option linter.unusedSimpArgs false

/-! ### laws_FnExact: function 3 -/
mutual
def laws_FnExact.j0 : Nat → List Int → Int → Int → Int → Int → Bool → Int → Bool → Bool → Option (Bool)
  | 0, _, _, _, _, _, _, _, _, _ => none
  | k + 1, x0, x3, x4, x5, x7, x8, x9, x10, x79 => if x79 = true then (some false) else (if x8 = true then (if x10 = true then (if (wrap64 (x7 * x5)) > (wrap64 (x3 * x4)) then (laws_FnExact.j1 k x0 true) else (if (wrap64 (x9 * x5)) < (wrap64 (x3 * x4)) then (laws_FnExact.j1 k x0 true) else (if (wrap64 (x9 - x7)) > 1 then (laws_FnExact.j1 k x0 true) else (if x9 < x7 then (laws_FnExact.j1 k x0 true) else (if x5 = 0 then (none) else (laws_FnExact.j1 k x0 ((x9 == x7) != ((Int.tmod (wrap64 (x3 * x4)) x5) == 0)))))))) else (laws_FnExact.j1 k x0 false)) else (laws_FnExact.j1 k x0 false))
def laws_FnExact.j1 : Nat → List Int → Bool → Option (Bool)
  | 0, _, _ => none
  | k + 1, x0, x124 => if x124 = true then (some false) else ((laws_alt.f k x0 1).bind fun t261 => ((spec_DrawFloorDiv.f k t261).bind fun bt264 => ((impl_FloorDiv.f bt264.1 bt264.2).bind fun t266 => ((impl_CeilDiv.f bt264.1 bt264.2).bind fun t267 => (if bt264.2 ≥ 1 then (if (wrap64 (t266 * bt264.2)) > bt264.1 then (laws_FnExact.j2 k x0 true) else (if (wrap64 ((wrap64 (t266 + 1)) * bt264.2)) ≤ bt264.1 then (laws_FnExact.j2 k x0 true) else (if (wrap64 (t267 * bt264.2)) < bt264.1 then (laws_FnExact.j2 k x0 true) else (if (wrap64 ((wrap64 (t267 - 1)) * bt264.2)) ≥ bt264.1 then (laws_FnExact.j2 k x0 true) else (if bt264.2 < 1 then (if t266 = 0 then (laws_FnExact.j2 k x0 (t267 != 0)) else (laws_FnExact.j2 k x0 true)) else (laws_FnExact.j2 k x0 false)))))) else (if bt264.2 < 1 then (if t266 = 0 then (laws_FnExact.j2 k x0 (t267 != 0)) else (laws_FnExact.j2 k x0 true)) else (laws_FnExact.j2 k x0 false)))))))
def laws_FnExact.j2 : Nat → List Int → Bool → Option (Bool)
  | 0, _, _ => none
  | k + 1, x0, x180 => if x180 = true then (some false) else ((laws_alt.f k x0 2).bind fun t268 => ((spec_DrawCompareRatios.f k t268).bind fun bt271 => ((impl_CompareRatios.f bt271.1 bt271.2.1 bt271.2.2.1 bt271.2.2.2).bind fun t275 => ((impl_CompareRatios.f bt271.2.2.1 bt271.2.2.2 bt271.1 bt271.2.1).bind fun t276 => ((spec_CompareRatios.f k bt271.1 bt271.2.1 bt271.2.2.1 bt271.2.2.2).bind fun t277 => (if t275 = t277 then (if t275 = 2 then (if t276 = 2 then (some true) else (some false)) else (some (t276 == (wrap64 (-t275))))) else (some false)))))))
end
def laws_FnExact.f (k : Nat) (l0 : List Int) : Option (Bool) := (laws_big.f l0).bind fun t248 => (if t248 = true then (some true) else ((spec_DrawMulDiv.f k l0).bind fun bt249 => ((impl_MulDiv.f k bt249.1 bt249.2.1 bt249.2.2.1 false).bind fun bt253 => ((impl_MulDiv.f k bt249.1 bt249.2.1 bt249.2.2.1 true).bind fun bt255 => ((spec_MulDiv.f k bt249.1 bt249.2.1 bt249.2.2.1 false).bind fun bt257 => ((spec_MulDiv.f k bt249.1 bt249.2.1 bt249.2.2.1 true).bind fun bt259 => (if (bt253.2 != bt257.2) = true then (laws_FnExact.j0 k l0 bt249.1 bt249.2.1 bt249.2.2.1 bt253.1 bt253.2 bt255.1 bt255.2 true) else (if (bt255.2 != bt259.2) = true then (laws_FnExact.j0 k l0 bt249.1 bt249.2.1 bt249.2.2.1 bt253.1 bt253.2 bt255.1 bt255.2 true) else (if bt253.1 = bt257.1 then (laws_FnExact.j0 k l0 bt249.1 bt249.2.1 bt249.2.2.1 bt253.1 bt253.2 bt255.1 bt255.2 (bt255.1 != bt259.1)) else (laws_FnExact.j0 k l0 bt249.1 bt249.2.1 bt249.2.2.1 bt253.1 bt253.2 bt255.1 bt255.2 true))))))))))
theorem laws_FnExact.mono_l : ∀ k, (∀ y0 y1 y2 y3 y4 y5 y6 y7 y8, LeO (laws_FnExact.j0 k y0 y1 y2 y3 y4 y5 y6 y7 y8) (laws_FnExact.j0 (k + 1) y0 y1 y2 y3 y4 y5 y6 y7 y8)) ∧ (∀ y0 y1, LeO (laws_FnExact.j1 k y0 y1) (laws_FnExact.j1 (k + 1) y0 y1)) ∧ (∀ y0 y1, LeO (laws_FnExact.j2 k y0 y1) (laws_FnExact.j2 (k + 1) y0 y1))
  | 0 => ⟨fun _ _ _ _ _ _ _ _ _ r h => by simp [laws_FnExact.j0] at h, fun _ _ r h => by simp [laws_FnExact.j1] at h, fun _ _ r h => by simp [laws_FnExact.j2] at h⟩
  | k + 1 => by
    obtain ⟨ih0, ih1, ih2⟩ := laws_FnExact.mono_l k
    refine ⟨?_, ?_, ?_⟩
    · intro y0 y1 y2 y3 y4 y5 y6 y7 y8
      unfold laws_FnExact.j0
      repeat' first
      | (with_reducible exact ih0 _ _ _ _ _ _ _ _ _)
      | (with_reducible exact ih1 _ _)
      | (with_reducible exact ih2 _ _)
      | (with_reducible exact impl_MulDiv.mono _ _ _ _ _)
      | (with_reducible exact laws_alt.mono _ _ _)
      | (with_reducible exact spec_CompareRatios.mono _ _ _ _ _)
      | (with_reducible exact spec_DrawCompareRatios.mono _ _)
      | (with_reducible exact spec_DrawFloorDiv.mono _ _)
      | (with_reducible exact spec_DrawMulDiv.mono _ _)
      | (with_reducible exact spec_MulDiv.mono _ _ _ _ _)
      | (with_reducible exact LeO.refl _)
      | (with_reducible exact LeO.none _)
      | (with_reducible refine LeO.ite ?_ ?_)
      | (with_reducible refine LeO.bind ?_ (fun _ => ?_))
      | exact ih0 _ _ _ _ _ _ _ _ _
      | exact ih1 _ _
      | exact ih2 _ _
      | exact impl_MulDiv.mono _ _ _ _ _
      | exact laws_alt.mono _ _ _
      | exact spec_CompareRatios.mono _ _ _ _ _
      | exact spec_DrawCompareRatios.mono _ _
      | exact spec_DrawFloorDiv.mono _ _
      | exact spec_DrawMulDiv.mono _ _
      | exact spec_MulDiv.mono _ _ _ _ _
      | exact LeO.none _
      | refine LeO.ite ?_ ?_
      | refine LeO.bind ?_ (fun _ => ?_)
    · intro y0 y1
      unfold laws_FnExact.j1
      repeat' first
      | (with_reducible exact ih0 _ _ _ _ _ _ _ _ _)
      | (with_reducible exact ih1 _ _)
      | (with_reducible exact ih2 _ _)
      | (with_reducible exact impl_MulDiv.mono _ _ _ _ _)
      | (with_reducible exact laws_alt.mono _ _ _)
      | (with_reducible exact spec_CompareRatios.mono _ _ _ _ _)
      | (with_reducible exact spec_DrawCompareRatios.mono _ _)
      | (with_reducible exact spec_DrawFloorDiv.mono _ _)
      | (with_reducible exact spec_DrawMulDiv.mono _ _)
      | (with_reducible exact spec_MulDiv.mono _ _ _ _ _)
      | (with_reducible exact LeO.refl _)
      | (with_reducible exact LeO.none _)
      | (with_reducible refine LeO.ite ?_ ?_)
      | (with_reducible refine LeO.bind ?_ (fun _ => ?_))
      | exact ih0 _ _ _ _ _ _ _ _ _
      | exact ih1 _ _
      | exact ih2 _ _
      | exact impl_MulDiv.mono _ _ _ _ _
      | exact laws_alt.mono _ _ _
      | exact spec_CompareRatios.mono _ _ _ _ _
      | exact spec_DrawCompareRatios.mono _ _
      | exact spec_DrawFloorDiv.mono _ _
      | exact spec_DrawMulDiv.mono _ _
      | exact spec_MulDiv.mono _ _ _ _ _
      | exact LeO.none _
      | refine LeO.ite ?_ ?_
      | refine LeO.bind ?_ (fun _ => ?_)
    · intro y0 y1
      unfold laws_FnExact.j2
      repeat' first
      | (with_reducible exact ih0 _ _ _ _ _ _ _ _ _)
      | (with_reducible exact ih1 _ _)
      | (with_reducible exact ih2 _ _)
      | (with_reducible exact impl_MulDiv.mono _ _ _ _ _)
      | (with_reducible exact laws_alt.mono _ _ _)
      | (with_reducible exact spec_CompareRatios.mono _ _ _ _ _)
      | (with_reducible exact spec_DrawCompareRatios.mono _ _)
      | (with_reducible exact spec_DrawFloorDiv.mono _ _)
      | (with_reducible exact spec_DrawMulDiv.mono _ _)
      | (with_reducible exact spec_MulDiv.mono _ _ _ _ _)
      | (with_reducible exact LeO.refl _)
      | (with_reducible exact LeO.none _)
      | (with_reducible refine LeO.ite ?_ ?_)
      | (with_reducible refine LeO.bind ?_ (fun _ => ?_))
      | exact ih0 _ _ _ _ _ _ _ _ _
      | exact ih1 _ _
      | exact ih2 _ _
      | exact impl_MulDiv.mono _ _ _ _ _
      | exact laws_alt.mono _ _ _
      | exact spec_CompareRatios.mono _ _ _ _ _
      | exact spec_DrawCompareRatios.mono _ _
      | exact spec_DrawFloorDiv.mono _ _
      | exact spec_DrawMulDiv.mono _ _
      | exact spec_MulDiv.mono _ _ _ _ _
      | exact LeO.none _
      | refine LeO.ite ?_ ?_
      | refine LeO.bind ?_ (fun _ => ?_)
theorem laws_FnExact.mono : ∀ a0 k, LeO (laws_FnExact.f k a0) (laws_FnExact.f (k + 1) a0) := by
  intro a0 k
  obtain ⟨ih0, ih1, ih2⟩ := laws_FnExact.mono_l k
  unfold laws_FnExact.f
  repeat' first
      | (with_reducible exact ih0 _ _ _ _ _ _ _ _ _)
      | (with_reducible exact ih1 _ _)
      | (with_reducible exact ih2 _ _)
      | (with_reducible exact impl_MulDiv.mono _ _ _ _ _)
      | (with_reducible exact laws_alt.mono _ _ _)
      | (with_reducible exact spec_CompareRatios.mono _ _ _ _ _)
      | (with_reducible exact spec_DrawCompareRatios.mono _ _)
      | (with_reducible exact spec_DrawFloorDiv.mono _ _)
      | (with_reducible exact spec_DrawMulDiv.mono _ _)
      | (with_reducible exact spec_MulDiv.mono _ _ _ _ _)
      | (with_reducible exact LeO.refl _)
      | (with_reducible exact LeO.none _)
      | (with_reducible refine LeO.ite ?_ ?_)
      | (with_reducible refine LeO.bind ?_ (fun _ => ?_))
      | exact ih0 _ _ _ _ _ _ _ _ _
      | exact ih1 _ _
      | exact ih2 _ _
      | exact impl_MulDiv.mono _ _ _ _ _
      | exact laws_alt.mono _ _ _
      | exact spec_CompareRatios.mono _ _ _ _ _
      | exact spec_DrawCompareRatios.mono _ _
      | exact spec_DrawFloorDiv.mono _ _
      | exact spec_DrawMulDiv.mono _ _
      | exact spec_MulDiv.mono _ _ _ _ _
      | exact LeO.none _
      | refine LeO.ite ?_ ?_
      | refine LeO.bind ?_ (fun _ => ?_)
set_option maxHeartbeats 8000000 in
set_option maxRecDepth 100000 in
theorem laws_FnExact.calls (k : Nat) (A0 : Option Addr) (c0 : Nat) (l0 : List Int) (r : Bool) (w : World) (hr0 : Kd.C (Kd.int .u8) w A0 l0.length l0) (hc0 : l0.length ≤ c0) (h : laws_FnExact.f k l0 = some r) :
    Calls Try.prog 3 #[.slice A0 l0.length c0] w fun e w' => e = .returned (.bool r) ∧ Below w.heap.size w w' := by
  have HR0 := Aside0.mk hr0
  have HC0 := Aside0.mk hc0
  clear hr0 hc0
  have HB := Aside0.mk (Below.refl w.heap.size w)
  have H : ((laws_big.f l0).bind fun t248 => (if t248 = true then (some true) else ((spec_DrawMulDiv.f k l0).bind fun bt249 => ((impl_MulDiv.f k bt249.1 bt249.2.1 bt249.2.2.1 false).bind fun bt253 => ((impl_MulDiv.f k bt249.1 bt249.2.1 bt249.2.2.1 true).bind fun bt255 => ((spec_MulDiv.f k bt249.1 bt249.2.1 bt249.2.2.1 false).bind fun bt257 => ((spec_MulDiv.f k bt249.1 bt249.2.1 bt249.2.2.1 true).bind fun bt259 => (if (bt253.2 != bt257.2) = true then (laws_FnExact.j0 k l0 bt249.1 bt249.2.1 bt249.2.2.1 bt253.1 bt253.2 bt255.1 bt255.2 true) else (if (bt255.2 != bt259.2) = true then (laws_FnExact.j0 k l0 bt249.1 bt249.2.1 bt249.2.2.1 bt253.1 bt253.2 bt255.1 bt255.2 true) else (if bt253.1 = bt257.1 then (laws_FnExact.j0 k l0 bt249.1 bt249.2.1 bt249.2.2.1 bt253.1 bt253.2 bt255.1 bt255.2 (bt255.1 != bt259.1)) else (laws_FnExact.j0 k l0 bt249.1 bt249.2.1 bt249.2.2.1 bt253.1 bt253.2 bt255.1 bt255.2 true))))))))))) = some r := h
  clear h
  replace H := Option.bind_eq_some_iff.mp H
  obtain ⟨t248, A20, H⟩ := H
  replace H : (if t248 = true then (some true) else ((spec_DrawMulDiv.f k l0).bind fun bt249 => ((impl_MulDiv.f k bt249.1 bt249.2.1 bt249.2.2.1 false).bind fun bt253 => ((impl_MulDiv.f k bt249.1 bt249.2.1 bt249.2.2.1 true).bind fun bt255 => ((spec_MulDiv.f k bt249.1 bt249.2.1 bt249.2.2.1 false).bind fun bt257 => ((spec_MulDiv.f k bt249.1 bt249.2.1 bt249.2.2.1 true).bind fun bt259 => (if (bt253.2 != bt257.2) = true then (laws_FnExact.j0 k l0 bt249.1 bt249.2.1 bt249.2.2.1 bt253.1 bt253.2 bt255.1 bt255.2 true) else (if (bt255.2 != bt259.2) = true then (laws_FnExact.j0 k l0 bt249.1 bt249.2.1 bt249.2.2.1 bt253.1 bt253.2 bt255.1 bt255.2 true) else (if bt253.1 = bt257.1 then (laws_FnExact.j0 k l0 bt249.1 bt249.2.1 bt249.2.2.1 bt253.1 bt253.2 bt255.1 bt255.2 (bt255.1 != bt259.1)) else (laws_FnExact.j0 k l0 bt249.1 bt249.2.1 bt249.2.2.1 bt253.1 bt253.2 bt255.1 bt255.2 true)))))))))) = some r := H
  have A2 := Aside0.mk A20
  clear A20
  by_cases c3 : t248 = true
  · subst c3
    have H1 : (some true) = some r := by rw [if_pos rfl] at H; exact H
    clear H
    have H := H1
    clear H1
    obtain rfl := Option.some.inj H
    go_enter Try.func3, Try.ntmps3
    go_wp2_with (first | ((with_reducible refine gate_callee (f := 6) rfl ?_); refine goesL_ (some 26) rfl rfl Try.func6 (by kernel_rfl) rfl #[.slice A0 l0.length c0] rfl (by (try simp only [List.map_toArray, List.map_cons, List.map_nil]); first | done | rfl | (simp only [List.length_drop, List.length_take]; rfl)) ?_; (with_reducible refine (laws_big.calls _ _ l0 true _ ?side1 ?side2 A2.out).mono ?_); (case side1 => repeat (first | exact HR0.out | (with_reducible refine Kd.C_alloc ?_ _) | (with_reducible refine Kd.C_drewN ?_ _) | (with_reducible refine Kd.C_drew ?_))); (case side2 => exact HC0.out); rintro e w' ⟨rfl, ⟨nd, rfl⟩⟩; refine ⟨_, rfl, ?_⟩))
    go_ret
    exact ⟨by first | rfl | (simp [errW_none, errW_some] <;> rfl) | (simp [*, errW_none, errW_some] <;> rfl), by repeat (first | (with_reducible first | exact HB.out | apply below_alloc | apply pw_below_drewN | apply below_drew1) | exact HB.out)⟩
  · replace c3 := Bool.eq_false_iff.mpr c3
    subst c3
    have H1 : ((spec_DrawMulDiv.f k l0).bind fun bt249 => ((impl_MulDiv.f k bt249.1 bt249.2.1 bt249.2.2.1 false).bind fun bt253 => ((impl_MulDiv.f k bt249.1 bt249.2.1 bt249.2.2.1 true).bind fun bt255 => ((spec_MulDiv.f k bt249.1 bt249.2.1 bt249.2.2.1 false).bind fun bt257 => ((spec_MulDiv.f k bt249.1 bt249.2.1 bt249.2.2.1 true).bind fun bt259 => (if (bt253.2 != bt257.2) = true then (laws_FnExact.j0 k l0 bt249.1 bt249.2.1 bt249.2.2.1 bt253.1 bt253.2 bt255.1 bt255.2 true) else (if (bt255.2 != bt259.2) = true then (laws_FnExact.j0 k l0 bt249.1 bt249.2.1 bt249.2.2.1 bt253.1 bt253.2 bt255.1 bt255.2 true) else (if bt253.1 = bt257.1 then (laws_FnExact.j0 k l0 bt249.1 bt249.2.1 bt249.2.2.1 bt253.1 bt253.2 bt255.1 bt255.2 (bt255.1 != bt259.1)) else (laws_FnExact.j0 k l0 bt249.1 bt249.2.1 bt249.2.2.1 bt253.1 bt253.2 bt255.1 bt255.2 true))))))))) = some r := by rw [if_neg (show ¬ (false = true) by decide)] at H; exact H
    clear H
    have H := H1
    clear H1
    replace H := Option.bind_eq_some_iff.mp H
    obtain ⟨⟨t249, t250, t251, t252⟩, A40, H⟩ := H
    replace H : ((impl_MulDiv.f k t249 t250 t251 false).bind fun bt253 => ((impl_MulDiv.f k t249 t250 t251 true).bind fun bt255 => ((spec_MulDiv.f k t249 t250 t251 false).bind fun bt257 => ((spec_MulDiv.f k t249 t250 t251 true).bind fun bt259 => (if (bt253.2 != bt257.2) = true then (laws_FnExact.j0 k l0 t249 t250 t251 bt253.1 bt253.2 bt255.1 bt255.2 true) else (if (bt255.2 != bt259.2) = true then (laws_FnExact.j0 k l0 t249 t250 t251 bt253.1 bt253.2 bt255.1 bt255.2 true) else (if bt253.1 = bt257.1 then (laws_FnExact.j0 k l0 t249 t250 t251 bt253.1 bt253.2 bt255.1 bt255.2 (bt255.1 != bt259.1)) else (laws_FnExact.j0 k l0 t249 t250 t251 bt253.1 bt253.2 bt255.1 bt255.2 true)))))))) = some r := H
    have A4 := Aside0.mk A40
    clear A40
    replace H := Option.bind_eq_some_iff.mp H
    obtain ⟨⟨t253, t254⟩, A50, H⟩ := H
    replace H : ((impl_MulDiv.f k t249 t250 t251 true).bind fun bt255 => ((spec_MulDiv.f k t249 t250 t251 false).bind fun bt257 => ((spec_MulDiv.f k t249 t250 t251 true).bind fun bt259 => (if (t254 != bt257.2) = true then (laws_FnExact.j0 k l0 t249 t250 t251 t253 t254 bt255.1 bt255.2 true) else (if (bt255.2 != bt259.2) = true then (laws_FnExact.j0 k l0 t249 t250 t251 t253 t254 bt255.1 bt255.2 true) else (if t253 = bt257.1 then (laws_FnExact.j0 k l0 t249 t250 t251 t253 t254 bt255.1 bt255.2 (bt255.1 != bt259.1)) else (laws_FnExact.j0 k l0 t249 t250 t251 t253 t254 bt255.1 bt255.2 true))))))) = some r := H
    have A5 := Aside0.mk A50
    clear A50
    replace H := Option.bind_eq_some_iff.mp H
    obtain ⟨⟨t255, t256⟩, A60, H⟩ := H
    replace H : ((spec_MulDiv.f k t249 t250 t251 false).bind fun bt257 => ((spec_MulDiv.f k t249 t250 t251 true).bind fun bt259 => (if (t254 != bt257.2) = true then (laws_FnExact.j0 k l0 t249 t250 t251 t253 t254 t255 t256 true) else (if (t256 != bt259.2) = true then (laws_FnExact.j0 k l0 t249 t250 t251 t253 t254 t255 t256 true) else (if t253 = bt257.1 then (laws_FnExact.j0 k l0 t249 t250 t251 t253 t254 t255 t256 (t255 != bt259.1)) else (laws_FnExact.j0 k l0 t249 t250 t251 t253 t254 t255 t256 true)))))) = some r := H
    have A6 := Aside0.mk A60
    clear A60
    replace H := Option.bind_eq_some_iff.mp H
    obtain ⟨⟨t257, t258⟩, A70, H⟩ := H
    replace H : ((spec_MulDiv.f k t249 t250 t251 true).bind fun bt259 => (if (t254 != t258) = true then (laws_FnExact.j0 k l0 t249 t250 t251 t253 t254 t255 t256 true) else (if (t256 != bt259.2) = true then (laws_FnExact.j0 k l0 t249 t250 t251 t253 t254 t255 t256 true) else (if t253 = t257 then (laws_FnExact.j0 k l0 t249 t250 t251 t253 t254 t255 t256 (t255 != bt259.1)) else (laws_FnExact.j0 k l0 t249 t250 t251 t253 t254 t255 t256 true))))) = some r := H
    have A7 := Aside0.mk A70
    clear A70
    replace H := Option.bind_eq_some_iff.mp H
    obtain ⟨⟨t259, t260⟩, A80, H⟩ := H
    replace H : (if (t254 != t258) = true then (laws_FnExact.j0 k l0 t249 t250 t251 t253 t254 t255 t256 true) else (if (t256 != t260) = true then (laws_FnExact.j0 k l0 t249 t250 t251 t253 t254 t255 t256 true) else (if t253 = t257 then (laws_FnExact.j0 k l0 t249 t250 t251 t253 t254 t255 t256 (t255 != t259)) else (laws_FnExact.j0 k l0 t249 t250 t251 t253 t254 t255 t256 true)))) = some r := H
    have A8 := Aside0.mk A80
    clear A80
    have HC9 := Aside0.mk H
    clear H
    go_enter Try.func3, Try.ntmps3
    go_upto_region 8 with (first | ((with_reducible refine gate_callee (f := 6) rfl ?_); refine goesL_ (some 26) rfl rfl Try.func6 (by kernel_rfl) rfl #[.slice A0 l0.length c0] rfl (by (try simp only [List.map_toArray, List.map_cons, List.map_nil]); first | done | rfl | (simp only [List.length_drop, List.length_take]; rfl)) ?_; (with_reducible refine (laws_big.calls _ _ l0 false _ ?side1 ?side2 A2.out).mono ?_); (case side1 => repeat (first | exact HR0.out | (with_reducible refine Kd.C_alloc ?_ _) | (with_reducible refine Kd.C_drewN ?_ _) | (with_reducible refine Kd.C_drew ?_))); (case side2 => exact HC0.out); rintro e w' ⟨rfl, ⟨nd, rfl⟩⟩; refine ⟨_, rfl, ?_⟩) | ((with_reducible refine gate_callee (f := 7) rfl ?_); refine goesL_ (some 29) rfl rfl Try.func7 (by kernel_rfl) rfl #[.slice A0 l0.length c0] rfl (by (try simp only [List.map_toArray, List.map_cons, List.map_nil]); first | done | rfl | (simp only [List.length_drop, List.length_take]; rfl)) ?_; (with_reducible refine (spec_DrawMulDiv.calls k _ _ l0 t249 t250 t251 t252 _ ?side1 ?side2 A4.out).mono ?_); (case side1 => repeat (first | exact HR0.out | (with_reducible refine Kd.C_alloc ?_ _) | (with_reducible refine Kd.C_drewN ?_ _) | (with_reducible refine Kd.C_drew ?_))); (case side2 => exact HC0.out); rintro e w10 ⟨rfl, hb⟩; refine ⟨_, rfl, ?_⟩; have n0_ := Aside0.mk (below_step (by repeat (first | (with_reducible first | exact HB.out | apply below_alloc | apply pw_below_drewN | apply below_drew1) | exact HB.out)) hb); clear HB; have HB := n0_; clear n0_; (try clear hb); (try clear hb2); (try clear hk); (try clear hi)) | ((with_reducible refine gate_callee (f := 8) rfl ?_); refine goesL_ (some 38) rfl rfl Try.func8 (by kernel_rfl) rfl #[.int .i64 t249, .int .i64 t250, .int .i64 t251, .bool false] rfl (by (try simp only [List.map_toArray, List.map_cons, List.map_nil]); first | done | rfl | (simp only [List.length_drop, List.length_take]; rfl)) ?_; (with_reducible refine (impl_MulDiv.calls k t249 t250 t251 false t253 t254 _ A5.out).mono ?_); rintro e w' ⟨rfl, ⟨nd, rfl⟩⟩; refine ⟨_, rfl, ?_⟩) | ((with_reducible refine gate_callee (f := 8) rfl ?_); refine goesL_ (some 45) rfl rfl Try.func8 (by kernel_rfl) rfl #[.int .i64 t249, .int .i64 t250, .int .i64 t251, .bool true] rfl (by (try simp only [List.map_toArray, List.map_cons, List.map_nil]); first | done | rfl | (simp only [List.length_drop, List.length_take]; rfl)) ?_; (with_reducible refine (impl_MulDiv.calls k t249 t250 t251 true t255 t256 _ A6.out).mono ?_); rintro e w' ⟨rfl, ⟨nd, rfl⟩⟩; refine ⟨_, rfl, ?_⟩) | ((with_reducible refine gate_callee (f := 9) rfl ?_); refine goesL_ (some 52) rfl rfl Try.func9 (by kernel_rfl) rfl #[.int .i64 t249, .int .i64 t250, .int .i64 t251, .bool false] rfl (by (try simp only [List.map_toArray, List.map_cons, List.map_nil]); first | done | rfl | (simp only [List.length_drop, List.length_take]; rfl)) ?_; (with_reducible refine (spec_MulDiv.calls k t249 t250 t251 false t257 t258 _ A7.out).mono ?_); rintro e w' ⟨rfl, ⟨nd, rfl⟩⟩; refine ⟨_, rfl, ?_⟩) | ((with_reducible refine gate_callee (f := 9) rfl ?_); refine goesL_ (some 59) rfl rfl Try.func9 (by kernel_rfl) rfl #[.int .i64 t249, .int .i64 t250, .int .i64 t251, .bool true] rfl (by (try simp only [List.map_toArray, List.map_cons, List.map_nil]); first | done | rfl | (simp only [List.length_drop, List.length_take]; rfl)) ?_; (with_reducible refine (spec_MulDiv.calls k t249 t250 t251 true t259 t260 _ A8.out).mono ?_); rintro e w' ⟨rfl, ⟨nd, rfl⟩⟩; refine ⟨_, rfl, ?_⟩))
    (try simp only [Act.put, List.setIfInBounds_toArray, List.set_cons_zero, List.set_cons_succ])
    go_cut [79] (fun v79 wc => ∃ (kq : Nat) (x79_8 : Bool), v79 = .bool x79_8 ∧ Aside0 (laws_FnExact.j0 kq l0 t249 t250 t251 t253 t254 t255 t256 x79_8 = some r) ∧ Aside0 (kq ≤ k) ∧ Aside0 (Below w.heap.size w wc))
    case first =>
      as_aux_lemma =>
      have H := HC9.out
      clear HC9
      by_cases c11 : (t254 != t258) = true
      · rw [if_pos c11] at H
        have c11b0 : (t254 != t258) = true := c11
        (try (have c11b1 : decide (t254 = t258) = false := by simpa using c11))
        (try (have c11b2 : (t254 == t258) = false := by simpa using c11))
        (try (have c11b3 : ¬ (t254 = t258) := by simpa using c11))
        clear c11
        (first | rw [c11b0] | (simp only [i64_w, i32_w]; rw [c11b0]) | skip)
        have H' := Aside0.mk H
        clear H
        go_wp2
        go_meet
        case rel => exact ⟨_, (true), (by first | rfl | (simp; done) | (simp [*]; done)), H', ⟨by first | omega | exact Nat.le_refl _⟩, ⟨by repeat (first | (with_reducible first | exact HB.out | apply below_alloc | apply pw_below_drewN | apply below_drew1) | exact HB.out)⟩⟩
      · rw [if_neg c11] at H
        have c11b0 : (t254 != t258) = false := by simpa using c11
        (try (have c11b1 : decide (t254 = t258) = true := by simpa using c11))
        (try (have c11b2 : (t254 == t258) = true := by simpa using c11))
        clear c11
        (first | rw [c11b0] | (simp only [i64_w, i32_w]; rw [c11b0]) | skip)
        by_cases c12 : (t256 != t260) = true
        · rw [if_pos c12] at H
          have c12b0 : (t256 != t260) = true := c12
          (try (have c12b1 : decide (t256 = t260) = false := by simpa using c12))
          (try (have c12b2 : (t256 == t260) = false := by simpa using c12))
          (try (have c12b3 : ¬ (t256 = t260) := by simpa using c12))
          clear c12
          have H' := Aside0.mk H
          clear H
          go_wp2
          go_meet
          case rel => exact ⟨_, (true), (by first | rfl | (simp; done) | (simp [*]; done)), H', ⟨by first | omega | exact Nat.le_refl _⟩, ⟨by repeat (first | (with_reducible first | exact HB.out | apply below_alloc | apply pw_below_drewN | apply below_drew1) | exact HB.out)⟩⟩
        · rw [if_neg c12] at H
          have c12b0 : (t256 != t260) = false := by simpa using c12
          (try (have c12b1 : decide (t256 = t260) = true := by simpa using c12))
          (try (have c12b2 : (t256 == t260) = true := by simpa using c12))
          clear c12
          by_cases c13 : t253 = t257
          · rw [if_pos c13] at H
            have c13b0 : (t253 == t257) = true := beq_iff_eq.mpr c13
            have c13b1 : (t253 != t257) = false := bne_eq_false_iff_eq.mpr c13
            clear c13
            have H' := Aside0.mk H
            clear H
            go_wp2
            go_meet
            case rel => exact ⟨_, ((t255 != t259)), (by first | rfl | (simp; done) | (simp [*]; done)), H', ⟨by first | omega | exact Nat.le_refl _⟩, ⟨by repeat (first | (with_reducible first | exact HB.out | apply below_alloc | apply pw_below_drewN | apply below_drew1) | exact HB.out)⟩⟩
          · rw [if_neg c13] at H
            have c13b0 : (t253 == t257) = false := beq_eq_false_iff_ne.mpr c13
            have c13b1 : (t253 != t257) = true := bne_iff_ne.mpr c13
            have H' := Aside0.mk H
            clear H
            go_wp2
            go_meet
            case rel => exact ⟨_, (true), (by first | rfl | (simp; done) | (simp [*]; done)), H', ⟨by first | omega | exact Nat.le_refl _⟩, ⟨by repeat (first | (with_reducible first | exact HB.out | apply below_alloc | apply pw_below_drewN | apply below_drew1) | exact HB.out)⟩⟩
    case rest =>
      as_aux_lemma =>
      clear HC9
      try clear c1
      try clear p2
      try clear c3
      try clear c6
      try clear c7
      try clear c8
      try clear c9
      try clear c11
      try clear c11b0
      try clear c11b1
      try clear c11b2
      try clear c12
      try clear c12b0
      try clear c12b1
      try clear c12b2
      try clear c13
      try clear c13b0
      try clear c13b1
      obtain ⟨kq, x79_8, rfl, HA, HJ8, HB⟩ := hcut
      cases kq with
      | zero => exact absurd HA.out (by simp [laws_FnExact.j0])
      | succ kj8 =>
        have H := HA.out
        clear HA
        simp only [laws_FnExact.j0] at H
        by_cases c14 : x79_8 = true
        · subst c14
          have H1 : (some false) = some r := by rw [if_pos rfl] at H; exact H
          clear H
          have H := H1
          clear H1
          obtain rfl := Option.some.inj H
          go_wp2
          go_ret
          exact ⟨by first | rfl | (simp [errW_none, errW_some] <;> rfl) | (simp [*, errW_none, errW_some] <;> rfl), by repeat (first | (with_reducible first | exact HB.out | apply below_alloc | apply pw_below_drewN | apply below_drew1) | exact HB.out)⟩
        · replace c14 := Bool.eq_false_iff.mpr c14
          subst c14
          have H1 : (if t254 = true then (if t256 = true then (if (wrap64 (t253 * t251)) > (wrap64 (t249 * t250)) then (laws_FnExact.j1 kj8 l0 true) else (if (wrap64 (t255 * t251)) < (wrap64 (t249 * t250)) then (laws_FnExact.j1 kj8 l0 true) else (if (wrap64 (t255 - t253)) > 1 then (laws_FnExact.j1 kj8 l0 true) else (if t255 < t253 then (laws_FnExact.j1 kj8 l0 true) else (if t251 = 0 then (none) else (laws_FnExact.j1 kj8 l0 ((t255 == t253) != ((Int.tmod (wrap64 (t249 * t250)) t251) == 0)))))))) else (laws_FnExact.j1 kj8 l0 false)) else (laws_FnExact.j1 kj8 l0 false)) = some r := by rw [if_neg (show ¬ (false = true) by decide)] at H; exact H
          clear H
          have H := H1
          clear H1
          have HC15 := Aside0.mk H
          clear H
          go_upto_region 10 with (fail)
          go_cut [124] (fun v124 wc => ∃ (kq : Nat) (x124_14 : Bool), v124 = .bool x124_14 ∧ Aside0 (laws_FnExact.j1 kq l0 x124_14 = some r) ∧ Aside0 (kq ≤ kj8) ∧ Aside0 (Below w.heap.size w wc))
          case first =>
            as_aux_lemma =>
            have H := HC15.out
            clear HC15
            by_cases c16 : t254 = true
            · subst c16
              have H1 : (if t256 = true then (if (wrap64 (t253 * t251)) > (wrap64 (t249 * t250)) then (laws_FnExact.j1 kj8 l0 true) else (if (wrap64 (t255 * t251)) < (wrap64 (t249 * t250)) then (laws_FnExact.j1 kj8 l0 true) else (if (wrap64 (t255 - t253)) > 1 then (laws_FnExact.j1 kj8 l0 true) else (if t255 < t253 then (laws_FnExact.j1 kj8 l0 true) else (if t251 = 0 then (none) else (laws_FnExact.j1 kj8 l0 ((t255 == t253) != ((Int.tmod (wrap64 (t249 * t250)) t251) == 0)))))))) else (laws_FnExact.j1 kj8 l0 false)) = some r := by rw [if_pos rfl] at H; exact H
              clear H
              have H := H1
              clear H1
              by_cases c17 : t256 = true
              · subst c17
                have H1 : (if (wrap64 (t253 * t251)) > (wrap64 (t249 * t250)) then (laws_FnExact.j1 kj8 l0 true) else (if (wrap64 (t255 * t251)) < (wrap64 (t249 * t250)) then (laws_FnExact.j1 kj8 l0 true) else (if (wrap64 (t255 - t253)) > 1 then (laws_FnExact.j1 kj8 l0 true) else (if t255 < t253 then (laws_FnExact.j1 kj8 l0 true) else (if t251 = 0 then (none) else (laws_FnExact.j1 kj8 l0 ((t255 == t253) != ((Int.tmod (wrap64 (t249 * t250)) t251) == 0)))))))) = some r := by rw [if_pos rfl] at H; exact H
                clear H
                have H := H1
                clear H1
                by_cases c18 : (wrap64 (t253 * t251)) > (wrap64 (t249 * t250))
                · rw [if_pos c18] at H
                  have c18b0 : decide ((wrap64 (t249 * t250)) < (wrap64 (t253 * t251))) = true := decide_eq_true c18
                  clear c18
                  (first | rw [c18b0] | (simp only [i64_w, i32_w]; rw [c18b0]) | skip)
                  have H' := Aside0.mk H
                  clear H
                  go_wp2
                  go_meet
                  case rel => exact ⟨_, (true), (by first | rfl | (simp; done) | (simp [*]; done)), H', ⟨by have := HJ8.out; first | omega | exact Nat.le_refl _⟩, ⟨by repeat (first | (with_reducible first | exact HB.out | apply below_alloc | apply pw_below_drewN | apply below_drew1) | exact HB.out)⟩⟩
                · rw [if_neg c18] at H
                  have c18b0 : decide ((wrap64 (t249 * t250)) < (wrap64 (t253 * t251))) = false := decide_eq_false c18
                  clear c18
                  (first | rw [c18b0] | (simp only [i64_w, i32_w]; rw [c18b0]) | skip)
                  by_cases c19 : (wrap64 (t255 * t251)) < (wrap64 (t249 * t250))
                  · rw [if_pos c19] at H
                    have c19b0 : decide ((wrap64 (t255 * t251)) < (wrap64 (t249 * t250))) = true := decide_eq_true c19
                    clear c19
                    have H' := Aside0.mk H
                    clear H
                    go_wp2
                    go_meet
                    case rel => exact ⟨_, (true), (by first | rfl | (simp; done) | (simp [*]; done)), H', ⟨by have := HJ8.out; first | omega | exact Nat.le_refl _⟩, ⟨by repeat (first | (with_reducible first | exact HB.out | apply below_alloc | apply pw_below_drewN | apply below_drew1) | exact HB.out)⟩⟩
                  · rw [if_neg c19] at H
                    have c19b0 : decide ((wrap64 (t255 * t251)) < (wrap64 (t249 * t250))) = false := decide_eq_false c19
                    clear c19
                    by_cases c20 : (wrap64 (t255 - t253)) > 1
                    · rw [if_pos c20] at H
                      have c20b0 : decide (1 < (wrap64 (t255 - t253))) = true := decide_eq_true c20
                      clear c20
                      have H' := Aside0.mk H
                      clear H
                      go_wp2
                      go_meet
                      case rel => exact ⟨_, (true), (by first | rfl | (simp; done) | (simp [*]; done)), H', ⟨by have := HJ8.out; first | omega | exact Nat.le_refl _⟩, ⟨by repeat (first | (with_reducible first | exact HB.out | apply below_alloc | apply pw_below_drewN | apply below_drew1) | exact HB.out)⟩⟩
                    · rw [if_neg c20] at H
                      have c20b0 : decide (1 < (wrap64 (t255 - t253))) = false := decide_eq_false c20
                      clear c20
                      by_cases c21 : t255 < t253
                      · rw [if_pos c21] at H
                        have c21b0 : decide (t255 < t253) = true := decide_eq_true c21
                        clear c21
                        have H' := Aside0.mk H
                        clear H
                        go_wp2
                        go_meet
                        case rel => exact ⟨_, (true), (by first | rfl | (simp; done) | (simp [*]; done)), H', ⟨by have := HJ8.out; first | omega | exact Nat.le_refl _⟩, ⟨by repeat (first | (with_reducible first | exact HB.out | apply below_alloc | apply pw_below_drewN | apply below_drew1) | exact HB.out)⟩⟩
                      · rw [if_neg c21] at H
                        have c21b0 : decide (t255 < t253) = false := decide_eq_false c21
                        clear c21
                        by_cases c22 : t251 = 0
                        · rw [if_pos c22] at H
                          exact absurd H (by simp)
                        · rw [if_neg c22] at H
                          have c22b0 : (t251 == 0) = false := beq_eq_false_iff_ne.mpr c22
                          have c22b1 : (t251 != 0) = true := bne_iff_ne.mpr c22
                          have H' := Aside0.mk H
                          clear H
                          go_wp2
                          go_meet
                          case rel => exact ⟨_, (((t255 == t253) != ((Int.tmod (wrap64 (t249 * t250)) t251) == 0))), (by first | rfl | (simp; done) | (simp [*]; done)), H', ⟨by have := HJ8.out; first | omega | exact Nat.le_refl _⟩, ⟨by repeat (first | (with_reducible first | exact HB.out | apply below_alloc | apply pw_below_drewN | apply below_drew1) | exact HB.out)⟩⟩
              · replace c17 := Bool.eq_false_iff.mpr c17
                subst c17
                have H1 : (laws_FnExact.j1 kj8 l0 false) = some r := by rw [if_neg (show ¬ (false = true) by decide)] at H; exact H
                clear H
                have H := H1
                clear H1
                have H' := Aside0.mk H
                clear H
                go_wp2
                go_meet
                case rel => exact ⟨_, (false), (by first | rfl | (simp; done) | (simp [*]; done)), H', ⟨by have := HJ8.out; first | omega | exact Nat.le_refl _⟩, ⟨by repeat (first | (with_reducible first | exact HB.out | apply below_alloc | apply pw_below_drewN | apply below_drew1) | exact HB.out)⟩⟩
            · replace c16 := Bool.eq_false_iff.mpr c16
              subst c16
              have H1 : (laws_FnExact.j1 kj8 l0 false) = some r := by rw [if_neg (show ¬ (false = true) by decide)] at H; exact H
              clear H
              have H := H1
              clear H1
              have H' := Aside0.mk H
              clear H
              go_wp2
              go_meet
              case rel => exact ⟨_, (false), (by first | rfl | (simp; done) | (simp [*]; done)), H', ⟨by have := HJ8.out; first | omega | exact Nat.le_refl _⟩, ⟨by repeat (first | (with_reducible first | exact HB.out | apply below_alloc | apply pw_below_drewN | apply below_drew1) | exact HB.out)⟩⟩
          case rest =>
            as_aux_lemma =>
            clear HC15
            try clear c1
            try clear c2
            try clear p2
            try clear c3
            try clear c6
            try clear p6
            try clear c7
            try clear c8
            try clear c9
            try clear c11
            try clear c11b0
            try clear c11b1
            try clear c11b2
            try clear c12
            try clear c12b0
            try clear c12b1
            try clear c12b2
            try clear c13
            try clear c13b0
            try clear c13b1
            try clear c14
            try clear c16
            try clear c17
            try clear c18
            try clear c18b0
            try clear c19
            try clear c19b0
            try clear c20
            try clear c20b0
            try clear c21
            try clear c21b0
            try clear c22
            try clear c22b0
            try clear c22b1
            try clear p2
            obtain ⟨kq, x124_14, rfl, HA, HJ14, HB⟩ := hcut
            cases kq with
            | zero => exact absurd HA.out (by simp [laws_FnExact.j1])
            | succ kj14 =>
              have H := HA.out
              clear HA
              simp only [laws_FnExact.j1] at H
              by_cases c23 : x124_14 = true
              · subst c23
                have H1 : (some false) = some r := by rw [if_pos rfl] at H; exact H
                clear H
                have H := H1
                clear H1
                obtain rfl := Option.some.inj H
                go_wp2
                go_ret
                exact ⟨by first | rfl | (simp [errW_none, errW_some] <;> rfl) | (simp [*, errW_none, errW_some] <;> rfl), by repeat (first | (with_reducible first | exact HB.out | apply below_alloc | apply pw_below_drewN | apply below_drew1) | exact HB.out)⟩
              · replace c23 := Bool.eq_false_iff.mpr c23
                subst c23
                have H1 : ((laws_alt.f kj14 l0 1).bind fun t261 => ((spec_DrawFloorDiv.f kj14 t261).bind fun bt264 => ((impl_FloorDiv.f bt264.1 bt264.2).bind fun t266 => ((impl_CeilDiv.f bt264.1 bt264.2).bind fun t267 => (if bt264.2 ≥ 1 then (if (wrap64 (t266 * bt264.2)) > bt264.1 then (laws_FnExact.j2 kj14 l0 true) else (if (wrap64 ((wrap64 (t266 + 1)) * bt264.2)) ≤ bt264.1 then (laws_FnExact.j2 kj14 l0 true) else (if (wrap64 (t267 * bt264.2)) < bt264.1 then (laws_FnExact.j2 kj14 l0 true) else (if (wrap64 ((wrap64 (t267 - 1)) * bt264.2)) ≥ bt264.1 then (laws_FnExact.j2 kj14 l0 true) else (if bt264.2 < 1 then (if t266 = 0 then (laws_FnExact.j2 kj14 l0 (t267 != 0)) else (laws_FnExact.j2 kj14 l0 true)) else (laws_FnExact.j2 kj14 l0 false)))))) else (if bt264.2 < 1 then (if t266 = 0 then (laws_FnExact.j2 kj14 l0 (t267 != 0)) else (laws_FnExact.j2 kj14 l0 true)) else (laws_FnExact.j2 kj14 l0 false))))))) = some r := by rw [if_neg (show ¬ (false = true) by decide)] at H; exact H
                clear H
                have H := H1
                clear H1
                replace H := Option.bind_eq_some_iff.mp H
                obtain ⟨t261, A240, H⟩ := H
                replace H : ((spec_DrawFloorDiv.f kj14 t261).bind fun bt264 => ((impl_FloorDiv.f bt264.1 bt264.2).bind fun t266 => ((impl_CeilDiv.f bt264.1 bt264.2).bind fun t267 => (if bt264.2 ≥ 1 then (if (wrap64 (t266 * bt264.2)) > bt264.1 then (laws_FnExact.j2 kj14 l0 true) else (if (wrap64 ((wrap64 (t266 + 1)) * bt264.2)) ≤ bt264.1 then (laws_FnExact.j2 kj14 l0 true) else (if (wrap64 (t267 * bt264.2)) < bt264.1 then (laws_FnExact.j2 kj14 l0 true) else (if (wrap64 ((wrap64 (t267 - 1)) * bt264.2)) ≥ bt264.1 then (laws_FnExact.j2 kj14 l0 true) else (if bt264.2 < 1 then (if t266 = 0 then (laws_FnExact.j2 kj14 l0 (t267 != 0)) else (laws_FnExact.j2 kj14 l0 true)) else (laws_FnExact.j2 kj14 l0 false)))))) else (if bt264.2 < 1 then (if t266 = 0 then (laws_FnExact.j2 kj14 l0 (t267 != 0)) else (laws_FnExact.j2 kj14 l0 true)) else (laws_FnExact.j2 kj14 l0 false)))))) = some r := H
                have A24 := Aside0.mk A240
                clear A240
                replace H := Option.bind_eq_some_iff.mp H
                obtain ⟨⟨t264, t265⟩, A250, H⟩ := H
                replace H : ((impl_FloorDiv.f t264 t265).bind fun t266 => ((impl_CeilDiv.f t264 t265).bind fun t267 => (if t265 ≥ 1 then (if (wrap64 (t266 * t265)) > t264 then (laws_FnExact.j2 kj14 l0 true) else (if (wrap64 ((wrap64 (t266 + 1)) * t265)) ≤ t264 then (laws_FnExact.j2 kj14 l0 true) else (if (wrap64 (t267 * t265)) < t264 then (laws_FnExact.j2 kj14 l0 true) else (if (wrap64 ((wrap64 (t267 - 1)) * t265)) ≥ t264 then (laws_FnExact.j2 kj14 l0 true) else (if t265 < 1 then (if t266 = 0 then (laws_FnExact.j2 kj14 l0 (t267 != 0)) else (laws_FnExact.j2 kj14 l0 true)) else (laws_FnExact.j2 kj14 l0 false)))))) else (if t265 < 1 then (if t266 = 0 then (laws_FnExact.j2 kj14 l0 (t267 != 0)) else (laws_FnExact.j2 kj14 l0 true)) else (laws_FnExact.j2 kj14 l0 false))))) = some r := H
                have A25 := Aside0.mk A250
                clear A250
                replace H := Option.bind_eq_some_iff.mp H
                obtain ⟨t266, A260, H⟩ := H
                replace H : ((impl_CeilDiv.f t264 t265).bind fun t267 => (if t265 ≥ 1 then (if (wrap64 (t266 * t265)) > t264 then (laws_FnExact.j2 kj14 l0 true) else (if (wrap64 ((wrap64 (t266 + 1)) * t265)) ≤ t264 then (laws_FnExact.j2 kj14 l0 true) else (if (wrap64 (t267 * t265)) < t264 then (laws_FnExact.j2 kj14 l0 true) else (if (wrap64 ((wrap64 (t267 - 1)) * t265)) ≥ t264 then (laws_FnExact.j2 kj14 l0 true) else (if t265 < 1 then (if t266 = 0 then (laws_FnExact.j2 kj14 l0 (t267 != 0)) else (laws_FnExact.j2 kj14 l0 true)) else (laws_FnExact.j2 kj14 l0 false)))))) else (if t265 < 1 then (if t266 = 0 then (laws_FnExact.j2 kj14 l0 (t267 != 0)) else (laws_FnExact.j2 kj14 l0 true)) else (laws_FnExact.j2 kj14 l0 false)))) = some r := H
                have A26 := Aside0.mk A260
                clear A260
                replace H := Option.bind_eq_some_iff.mp H
                obtain ⟨t267, A270, H⟩ := H
                replace H : (if t265 ≥ 1 then (if (wrap64 (t266 * t265)) > t264 then (laws_FnExact.j2 kj14 l0 true) else (if (wrap64 ((wrap64 (t266 + 1)) * t265)) ≤ t264 then (laws_FnExact.j2 kj14 l0 true) else (if (wrap64 (t267 * t265)) < t264 then (laws_FnExact.j2 kj14 l0 true) else (if (wrap64 ((wrap64 (t267 - 1)) * t265)) ≥ t264 then (laws_FnExact.j2 kj14 l0 true) else (if t265 < 1 then (if t266 = 0 then (laws_FnExact.j2 kj14 l0 (t267 != 0)) else (laws_FnExact.j2 kj14 l0 true)) else (laws_FnExact.j2 kj14 l0 false)))))) else (if t265 < 1 then (if t266 = 0 then (laws_FnExact.j2 kj14 l0 (t267 != 0)) else (laws_FnExact.j2 kj14 l0 true)) else (laws_FnExact.j2 kj14 l0 false))) = some r := H
                have A27 := Aside0.mk A270
                clear A270
                have HC28 := Aside0.mk H
                clear H
                go_upto_region 15 with (first | ((with_reducible refine gate_callee (f := 11) rfl ?_); refine goesL_ (some 127) rfl rfl Try.func11 (by kernel_rfl) rfl #[.slice A0 l0.length c0, .int .i64 1] rfl (by (try simp only [List.map_toArray, List.map_cons, List.map_nil]); first | done | rfl | (simp only [List.length_drop, List.length_take]; rfl)) ?_; (with_reducible refine (laws_alt.calls kj14 _ _ l0 1 t261 _ ?side1 ?side2 A24.out).mono ?_); (case side1 => repeat (first | exact (Kd.C_below HR0.out HB.out) | (with_reducible refine Kd.C_alloc ?_ _) | (with_reducible refine Kd.C_drewN ?_ _) | (with_reducible refine Kd.C_drew ?_))); (case side2 => exact HC0.out); rintro e w29 ⟨v262, rfl, ho0, hb⟩; refine ⟨_, rfl, ?_⟩; have n0_ := Aside0.mk (Kd.R_lower ho0 (below_size (by repeat (first | (with_reducible first | exact HB.out | apply below_alloc | apply pw_below_drewN | apply below_drew1) | exact HB.out)))); have n1_ := Aside0.mk (below_step (by repeat (first | (with_reducible first | exact HB.out | apply below_alloc | apply pw_below_drewN | apply below_drew1) | exact HB.out)) hb); clear HB; have HO263 := n0_; have HB := n1_; clear n0_ n1_; (try clear hb); (try clear hb2); (try clear hk); (try clear hi); (try clear ho0); obtain ⟨Ao30, co30, eo30⟩ := Kd.R_slice HO263.out; subst eo30) | ((with_reducible refine gate_callee (f := 10) rfl ?_); refine goesL_ (some 128) rfl rfl Try.func10 (by kernel_rfl) rfl #[.slice Ao30 t261.length co30] rfl (by (try simp only [List.map_toArray, List.map_cons, List.map_nil]); first | done | rfl | (simp only [List.length_drop, List.length_take]; rfl)) ?_; (with_reducible refine (spec_DrawFloorDiv.calls kj14 _ _ t261 t264 t265 _ ?side1 ?side2 A25.out).mono ?_); (case side1 => repeat (first | exact (Kd.R_reads' HO263.out).2.2 | (with_reducible refine Kd.C_alloc ?_ _) | (with_reducible refine Kd.C_drewN ?_ _) | (with_reducible refine Kd.C_drew ?_))); (case side2 => exact (Kd.R_reads' HO263.out).2.1); rintro e w31 ⟨rfl, hb⟩; refine ⟨_, rfl, ?_⟩; have n0_ := Aside0.mk (Kd.R_below (by (with_reducible repeat (first | apply Kd.R_alloc | apply Kd.R_drewN | apply Kd.R_drew)); exact HO263.out) hb); have n1_ := Aside0.mk (below_step (by repeat (first | (with_reducible first | exact HB.out | apply below_alloc | apply pw_below_drewN | apply below_drew1) | exact HB.out)) hb); clear HO263; clear HB; have HO263 := n0_; have HB := n1_; clear n0_ n1_; (try clear hb); (try clear hb2); (try clear hk); (try clear hi)) | ((with_reducible refine gate_callee (f := 12) rfl ?_); refine goesL_ (some 133) rfl rfl Try.func12 (by kernel_rfl) rfl #[.int .i64 t264, .int .i64 t265] rfl (by (try simp only [List.map_toArray, List.map_cons, List.map_nil]); first | done | rfl | (simp only [List.length_drop, List.length_take]; rfl)) ?_; (with_reducible refine (impl_FloorDiv.calls t264 t265 t266 _ A26.out).mono ?_); rintro e w' ⟨rfl, ⟨nd, rfl⟩⟩; refine ⟨_, rfl, ?_⟩) | ((with_reducible refine gate_callee (f := 13) rfl ?_); refine goesL_ (some 136) rfl rfl Try.func13 (by kernel_rfl) rfl #[.int .i64 t264, .int .i64 t265] rfl (by (try simp only [List.map_toArray, List.map_cons, List.map_nil]); first | done | rfl | (simp only [List.length_drop, List.length_take]; rfl)) ?_; (with_reducible refine (impl_CeilDiv.calls t264 t265 t267 _ A27.out).mono ?_); rintro e w' ⟨rfl, ⟨nd, rfl⟩⟩; refine ⟨_, rfl, ?_⟩))
                (try simp only [Act.put, List.setIfInBounds_toArray, List.set_cons_zero, List.set_cons_succ])
                go_cut [180] (fun v180 wc => ∃ (kq : Nat) (x180_27 : Bool), v180 = .bool x180_27 ∧ Aside0 (laws_FnExact.j2 kq l0 x180_27 = some r) ∧ Aside0 (kq ≤ kj14) ∧ Aside0 (Below w.heap.size w wc))
                case first =>
                  as_aux_lemma =>
                  have H := HC28.out
                  clear HC28
                  by_cases c32 : t265 ≥ 1
                  · rw [if_pos c32] at H
                    have c32b0 : decide (1 ≤ t265) = true := decide_eq_true c32
                    clear c32
                    (first | rw [c32b0] | (simp only [i64_w, i32_w]; rw [c32b0]) | skip)
                    by_cases c33 : (wrap64 (t266 * t265)) > t264
                    · rw [if_pos c33] at H
                      have c33b0 : decide (t264 < (wrap64 (t266 * t265))) = true := decide_eq_true c33
                      clear c33
                      have H' := Aside0.mk H
                      clear H
                      go_wp2
                      go_meet
                      case rel => exact ⟨_, (true), (by first | rfl | (simp; done) | (simp [*]; done)), H', ⟨by have := HJ8.out; have := HJ14.out; first | omega | exact Nat.le_refl _⟩, ⟨by repeat (first | (with_reducible first | exact HB.out | apply below_alloc | apply pw_below_drewN | apply below_drew1) | exact HB.out)⟩⟩
                    · rw [if_neg c33] at H
                      have c33b0 : decide (t264 < (wrap64 (t266 * t265))) = false := decide_eq_false c33
                      clear c33
                      by_cases c34 : (wrap64 ((wrap64 (t266 + 1)) * t265)) ≤ t264
                      · rw [if_pos c34] at H
                        have c34b0 : decide ((wrap64 ((wrap64 (t266 + 1)) * t265)) ≤ t264) = true := decide_eq_true c34
                        clear c34
                        have H' := Aside0.mk H
                        clear H
                        go_wp2
                        go_meet
                        case rel => exact ⟨_, (true), (by first | rfl | (simp; done) | (simp [*]; done)), H', ⟨by have := HJ8.out; have := HJ14.out; first | omega | exact Nat.le_refl _⟩, ⟨by repeat (first | (with_reducible first | exact HB.out | apply below_alloc | apply pw_below_drewN | apply below_drew1) | exact HB.out)⟩⟩
                      · rw [if_neg c34] at H
                        have c34b0 : decide ((wrap64 ((wrap64 (t266 + 1)) * t265)) ≤ t264) = false := decide_eq_false c34
                        clear c34
                        by_cases c35 : (wrap64 (t267 * t265)) < t264
                        · rw [if_pos c35] at H
                          have c35b0 : decide ((wrap64 (t267 * t265)) < t264) = true := decide_eq_true c35
                          clear c35
                          have H' := Aside0.mk H
                          clear H
                          go_wp2
                          go_meet
                          case rel => exact ⟨_, (true), (by first | rfl | (simp; done) | (simp [*]; done)), H', ⟨by have := HJ8.out; have := HJ14.out; first | omega | exact Nat.le_refl _⟩, ⟨by repeat (first | (with_reducible first | exact HB.out | apply below_alloc | apply pw_below_drewN | apply below_drew1) | exact HB.out)⟩⟩
                        · rw [if_neg c35] at H
                          have c35b0 : decide ((wrap64 (t267 * t265)) < t264) = false := decide_eq_false c35
                          clear c35
                          by_cases c36 : (wrap64 ((wrap64 (t267 - 1)) * t265)) ≥ t264
                          · rw [if_pos c36] at H
                            have c36b0 : decide (t264 ≤ (wrap64 ((wrap64 (t267 - 1)) * t265))) = true := decide_eq_true c36
                            clear c36
                            have H' := Aside0.mk H
                            clear H
                            go_wp2
                            go_meet
                            case rel => exact ⟨_, (true), (by first | rfl | (simp; done) | (simp [*]; done)), H', ⟨by have := HJ8.out; have := HJ14.out; first | omega | exact Nat.le_refl _⟩, ⟨by repeat (first | (with_reducible first | exact HB.out | apply below_alloc | apply pw_below_drewN | apply below_drew1) | exact HB.out)⟩⟩
                          · rw [if_neg c36] at H
                            have c36b0 : decide (t264 ≤ (wrap64 ((wrap64 (t267 - 1)) * t265))) = false := decide_eq_false c36
                            clear c36
                            by_cases c37 : t265 < 1
                            · rw [if_pos c37] at H
                              have c37b0 : decide (t265 < 1) = true := decide_eq_true c37
                              clear c37
                              by_cases c38 : t266 = 0
                              · rw [if_pos c38] at H
                                have c38b0 : (t266 == 0) = true := beq_iff_eq.mpr c38
                                have c38b1 : (t266 != 0) = false := bne_eq_false_iff_eq.mpr c38
                                clear c38
                                have H' := Aside0.mk H
                                clear H
                                go_wp2
                                go_meet
                                case rel => exact ⟨_, ((t267 != 0)), (by first | rfl | (simp; done) | (simp [*]; done)), H', ⟨by have := HJ8.out; have := HJ14.out; first | omega | exact Nat.le_refl _⟩, ⟨by repeat (first | (with_reducible first | exact HB.out | apply below_alloc | apply pw_below_drewN | apply below_drew1) | exact HB.out)⟩⟩
                              · rw [if_neg c38] at H
                                have c38b0 : (t266 == 0) = false := beq_eq_false_iff_ne.mpr c38
                                have c38b1 : (t266 != 0) = true := bne_iff_ne.mpr c38
                                have H' := Aside0.mk H
                                clear H
                                go_wp2
                                go_meet
                                case rel => exact ⟨_, (true), (by first | rfl | (simp; done) | (simp [*]; done)), H', ⟨by have := HJ8.out; have := HJ14.out; first | omega | exact Nat.le_refl _⟩, ⟨by repeat (first | (with_reducible first | exact HB.out | apply below_alloc | apply pw_below_drewN | apply below_drew1) | exact HB.out)⟩⟩
                            · rw [if_neg c37] at H
                              have c37b0 : decide (t265 < 1) = false := decide_eq_false c37
                              clear c37
                              have H' := Aside0.mk H
                              clear H
                              go_wp2
                              go_meet
                              case rel => exact ⟨_, (false), (by first | rfl | (simp; done) | (simp [*]; done)), H', ⟨by have := HJ8.out; have := HJ14.out; first | omega | exact Nat.le_refl _⟩, ⟨by repeat (first | (with_reducible first | exact HB.out | apply below_alloc | apply pw_below_drewN | apply below_drew1) | exact HB.out)⟩⟩
                  · rw [if_neg c32] at H
                    have c32b0 : decide (1 ≤ t265) = false := decide_eq_false c32
                    clear c32
                    (first | rw [c32b0] | (simp only [i64_w, i32_w]; rw [c32b0]) | skip)
                    by_cases c39 : t265 < 1
                    · rw [if_pos c39] at H
                      have c39b0 : decide (t265 < 1) = true := decide_eq_true c39
                      clear c39
                      by_cases c40 : t266 = 0
                      · rw [if_pos c40] at H
                        have c40b0 : (t266 == 0) = true := beq_iff_eq.mpr c40
                        have c40b1 : (t266 != 0) = false := bne_eq_false_iff_eq.mpr c40
                        clear c40
                        have H' := Aside0.mk H
                        clear H
                        go_wp2
                        go_meet
                        case rel => exact ⟨_, ((t267 != 0)), (by first | rfl | (simp; done) | (simp [*]; done)), H', ⟨by have := HJ8.out; have := HJ14.out; first | omega | exact Nat.le_refl _⟩, ⟨by repeat (first | (with_reducible first | exact HB.out | apply below_alloc | apply pw_below_drewN | apply below_drew1) | exact HB.out)⟩⟩
                      · rw [if_neg c40] at H
                        have c40b0 : (t266 == 0) = false := beq_eq_false_iff_ne.mpr c40
                        have c40b1 : (t266 != 0) = true := bne_iff_ne.mpr c40
                        have H' := Aside0.mk H
                        clear H
                        go_wp2
                        go_meet
                        case rel => exact ⟨_, (true), (by first | rfl | (simp; done) | (simp [*]; done)), H', ⟨by have := HJ8.out; have := HJ14.out; first | omega | exact Nat.le_refl _⟩, ⟨by repeat (first | (with_reducible first | exact HB.out | apply below_alloc | apply pw_below_drewN | apply below_drew1) | exact HB.out)⟩⟩
                    · rw [if_neg c39] at H
                      have c39b0 : decide (t265 < 1) = false := decide_eq_false c39
                      clear c39
                      have H' := Aside0.mk H
                      clear H
                      go_wp2
                      go_meet
                      case rel => exact ⟨_, (false), (by first | rfl | (simp; done) | (simp [*]; done)), H', ⟨by have := HJ8.out; have := HJ14.out; first | omega | exact Nat.le_refl _⟩, ⟨by repeat (first | (with_reducible first | exact HB.out | apply below_alloc | apply pw_below_drewN | apply below_drew1) | exact HB.out)⟩⟩
                case rest =>
                  as_aux_lemma =>
                  clear HC28
                  try clear c1
                  try clear c2
                  try clear p2
                  try clear c3
                  try clear c4
                  try clear c6
                  try clear p6
                  try clear c7
                  try clear c8
                  try clear c9
                  try clear c10
                  try clear c11
                  try clear c11b0
                  try clear c11b1
                  try clear c11b2
                  try clear c12
                  try clear c12b0
                  try clear c12b1
                  try clear c12b2
                  try clear c13
                  try clear c13b0
                  try clear c13b1
                  try clear c14
                  try clear c16
                  try clear c17
                  try clear c18
                  try clear c18b0
                  try clear c19
                  try clear c19b0
                  try clear c20
                  try clear c20b0
                  try clear c21
                  try clear c21b0
                  try clear c22
                  try clear c22b0
                  try clear c22b1
                  try clear c23
                  try clear c32
                  try clear c32b0
                  try clear c33
                  try clear c33b0
                  try clear c34
                  try clear c34b0
                  try clear c35
                  try clear c35b0
                  try clear c36
                  try clear c36b0
                  try clear c37
                  try clear c37b0
                  try clear c38
                  try clear c38b0
                  try clear c38b1
                  try clear c39
                  try clear c39b0
                  try clear c40
                  try clear c40b0
                  try clear c40b1
                  try clear p2
                  try clear p6
                  obtain ⟨kq, x180_27, rfl, HA, HJ27, HB⟩ := hcut
                  cases kq with
                  | zero => exact absurd HA.out (by simp [laws_FnExact.j2])
                  | succ kj27 =>
                    have H := HA.out
                    clear HA
                    simp only [laws_FnExact.j2] at H
                    by_cases c41 : x180_27 = true
                    · subst c41
                      have H1 : (some false) = some r := by rw [if_pos rfl] at H; exact H
                      clear H
                      have H := H1
                      clear H1
                      obtain rfl := Option.some.inj H
                      go_wp2
                      go_ret
                      exact ⟨by first | rfl | (simp [errW_none, errW_some] <;> rfl) | (simp [*, errW_none, errW_some] <;> rfl), by repeat (first | (with_reducible first | exact HB.out | apply below_alloc | apply pw_below_drewN | apply below_drew1) | exact HB.out)⟩
                    · replace c41 := Bool.eq_false_iff.mpr c41
                      subst c41
                      have H1 : ((laws_alt.f kj27 l0 2).bind fun t268 => ((spec_DrawCompareRatios.f kj27 t268).bind fun bt271 => ((impl_CompareRatios.f bt271.1 bt271.2.1 bt271.2.2.1 bt271.2.2.2).bind fun t275 => ((impl_CompareRatios.f bt271.2.2.1 bt271.2.2.2 bt271.1 bt271.2.1).bind fun t276 => ((spec_CompareRatios.f kj27 bt271.1 bt271.2.1 bt271.2.2.1 bt271.2.2.2).bind fun t277 => (if t275 = t277 then (if t275 = 2 then (if t276 = 2 then (some true) else (some false)) else (some (t276 == (wrap64 (-t275))))) else (some false))))))) = some r := by rw [if_neg (show ¬ (false = true) by decide)] at H; exact H
                      clear H
                      have H := H1
                      clear H1
                      replace H := Option.bind_eq_some_iff.mp H
                      obtain ⟨t268, A420, H⟩ := H
                      replace H : ((spec_DrawCompareRatios.f kj27 t268).bind fun bt271 => ((impl_CompareRatios.f bt271.1 bt271.2.1 bt271.2.2.1 bt271.2.2.2).bind fun t275 => ((impl_CompareRatios.f bt271.2.2.1 bt271.2.2.2 bt271.1 bt271.2.1).bind fun t276 => ((spec_CompareRatios.f kj27 bt271.1 bt271.2.1 bt271.2.2.1 bt271.2.2.2).bind fun t277 => (if t275 = t277 then (if t275 = 2 then (if t276 = 2 then (some true) else (some false)) else (some (t276 == (wrap64 (-t275))))) else (some false)))))) = some r := H
                      have A42 := Aside0.mk A420
                      clear A420
                      replace H := Option.bind_eq_some_iff.mp H
                      obtain ⟨⟨t271, t272, t273, t274⟩, A430, H⟩ := H
                      replace H : ((impl_CompareRatios.f t271 t272 t273 t274).bind fun t275 => ((impl_CompareRatios.f t273 t274 t271 t272).bind fun t276 => ((spec_CompareRatios.f kj27 t271 t272 t273 t274).bind fun t277 => (if t275 = t277 then (if t275 = 2 then (if t276 = 2 then (some true) else (some false)) else (some (t276 == (wrap64 (-t275))))) else (some false))))) = some r := H
                      have A43 := Aside0.mk A430
                      clear A430
                      replace H := Option.bind_eq_some_iff.mp H
                      obtain ⟨t275, A440, H⟩ := H
                      replace H : ((impl_CompareRatios.f t273 t274 t271 t272).bind fun t276 => ((spec_CompareRatios.f kj27 t271 t272 t273 t274).bind fun t277 => (if t275 = t277 then (if t275 = 2 then (if t276 = 2 then (some true) else (some false)) else (some (t276 == (wrap64 (-t275))))) else (some false)))) = some r := H
                      have A44 := Aside0.mk A440
                      clear A440
                      replace H := Option.bind_eq_some_iff.mp H
                      obtain ⟨t276, A450, H⟩ := H
                      replace H : ((spec_CompareRatios.f kj27 t271 t272 t273 t274).bind fun t277 => (if t275 = t277 then (if t275 = 2 then (if t276 = 2 then (some true) else (some false)) else (some (t276 == (wrap64 (-t275))))) else (some false))) = some r := H
                      have A45 := Aside0.mk A450
                      clear A450
                      replace H := Option.bind_eq_some_iff.mp H
                      obtain ⟨t277, A460, H⟩ := H
                      replace H : (if t275 = t277 then (if t275 = 2 then (if t276 = 2 then (some true) else (some false)) else (some (t276 == (wrap64 (-t275))))) else (some false)) = some r := H
                      have A46 := Aside0.mk A460
                      clear A460
                      by_cases c47 : t275 = t277
                      · rw [if_pos c47] at H
                        have c47b0 : (t275 == t277) = true := beq_iff_eq.mpr c47
                        have c47b1 : (t275 != t277) = false := bne_eq_false_iff_eq.mpr c47
                        clear c47
                        by_cases c48 : t275 = 2
                        · rw [if_pos c48] at H
                          have c48b0 : (t275 == 2) = true := beq_iff_eq.mpr c48
                          have c48b1 : (t275 != 2) = false := bne_eq_false_iff_eq.mpr c48
                          clear c48
                          by_cases c49 : t276 = 2
                          · rw [if_pos c49] at H
                            have c49b0 : (t276 == 2) = true := beq_iff_eq.mpr c49
                            have c49b1 : (t276 != 2) = false := bne_eq_false_iff_eq.mpr c49
                            clear c49
                            obtain rfl := Option.some.inj H
                            go_wp2_with (first | ((with_reducible refine gate_callee (f := 11) rfl ?_); refine goesL_ (some 183) rfl rfl Try.func11 (by kernel_rfl) rfl #[.slice A0 l0.length c0, .int .i64 2] rfl (by (try simp only [List.map_toArray, List.map_cons, List.map_nil]); first | done | rfl | (simp only [List.length_drop, List.length_take]; rfl)) ?_; (with_reducible refine (laws_alt.calls kj27 _ _ l0 2 t268 _ ?side1 ?side2 A42.out).mono ?_); (case side1 => repeat (first | exact (Kd.C_below HR0.out HB.out) | (with_reducible refine Kd.C_alloc ?_ _) | (with_reducible refine Kd.C_drewN ?_ _) | (with_reducible refine Kd.C_drew ?_))); (case side2 => exact HC0.out); rintro e w50 ⟨v269, rfl, ho0, hb⟩; refine ⟨_, rfl, ?_⟩; have n0_ := Aside0.mk (Kd.R_lower ho0 (below_size (by repeat (first | (with_reducible first | exact HB.out | apply below_alloc | apply pw_below_drewN | apply below_drew1) | exact HB.out)))); have n1_ := Aside0.mk (below_step (by repeat (first | (with_reducible first | exact HB.out | apply below_alloc | apply pw_below_drewN | apply below_drew1) | exact HB.out)) hb); clear HB; have HO270 := n0_; have HB := n1_; clear n0_ n1_; (try clear hb); (try clear hb2); (try clear hk); (try clear hi); (try clear ho0); obtain ⟨Ao51, co51, eo51⟩ := Kd.R_slice HO270.out; subst eo51) | ((with_reducible refine gate_callee (f := 14) rfl ?_); refine goesL_ (some 184) rfl rfl Try.func14 (by kernel_rfl) rfl #[.slice Ao51 t268.length co51] rfl (by (try simp only [List.map_toArray, List.map_cons, List.map_nil]); first | done | rfl | (simp only [List.length_drop, List.length_take]; rfl)) ?_; (with_reducible refine (spec_DrawCompareRatios.calls kj27 _ _ t268 t271 t272 t273 t274 _ ?side1 ?side2 A43.out).mono ?_); (case side1 => repeat (first | exact (Kd.R_reads' HO270.out).2.2 | (with_reducible refine Kd.C_alloc ?_ _) | (with_reducible refine Kd.C_drewN ?_ _) | (with_reducible refine Kd.C_drew ?_))); (case side2 => exact (Kd.R_reads' HO270.out).2.1); rintro e w52 ⟨rfl, hb⟩; refine ⟨_, rfl, ?_⟩; have n0_ := Aside0.mk (Kd.R_below (by (with_reducible repeat (first | apply Kd.R_alloc | apply Kd.R_drewN | apply Kd.R_drew)); exact HO270.out) hb); have n1_ := Aside0.mk (below_step (by repeat (first | (with_reducible first | exact HB.out | apply below_alloc | apply pw_below_drewN | apply below_drew1) | exact HB.out)) hb); clear HO270; clear HB; have HO270 := n0_; have HB := n1_; clear n0_ n1_; (try clear hb); (try clear hb2); (try clear hk); (try clear hi)) | ((with_reducible refine gate_callee (f := 15) rfl ?_); refine goesL_ (some 193) rfl rfl Try.func15 (by kernel_rfl) rfl #[.int .i64 t271, .int .i64 t272, .int .i64 t273, .int .i64 t274] rfl (by (try simp only [List.map_toArray, List.map_cons, List.map_nil]); first | done | rfl | (simp only [List.length_drop, List.length_take]; rfl)) ?_; (with_reducible refine (impl_CompareRatios.calls t271 t272 t273 t274 t275 _ A44.out).mono ?_); rintro e w' ⟨rfl, ⟨nd, rfl⟩⟩; refine ⟨_, rfl, ?_⟩) | ((with_reducible refine gate_callee (f := 15) rfl ?_); refine goesL_ (some 198) rfl rfl Try.func15 (by kernel_rfl) rfl #[.int .i64 t273, .int .i64 t274, .int .i64 t271, .int .i64 t272] rfl (by (try simp only [List.map_toArray, List.map_cons, List.map_nil]); first | done | rfl | (simp only [List.length_drop, List.length_take]; rfl)) ?_; (with_reducible refine (impl_CompareRatios.calls t273 t274 t271 t272 t276 _ A45.out).mono ?_); rintro e w' ⟨rfl, ⟨nd, rfl⟩⟩; refine ⟨_, rfl, ?_⟩) | ((with_reducible refine gate_callee (f := 16) rfl ?_); refine goesL_ (some 204) rfl rfl Try.func16 (by kernel_rfl) rfl #[.int .i64 t271, .int .i64 t272, .int .i64 t273, .int .i64 t274] rfl (by (try simp only [List.map_toArray, List.map_cons, List.map_nil]); first | done | rfl | (simp only [List.length_drop, List.length_take]; rfl)) ?_; (with_reducible refine (spec_CompareRatios.calls kj27 t271 t272 t273 t274 t277 _ A46.out).mono ?_); rintro e w' ⟨rfl, ⟨nd, rfl⟩⟩; refine ⟨_, rfl, ?_⟩))
                            go_ret
                            exact ⟨by first | rfl | (simp [errW_none, errW_some] <;> rfl) | (simp [*, errW_none, errW_some] <;> rfl), by repeat (first | (with_reducible first | exact HB.out | apply below_alloc | apply pw_below_drewN | apply below_drew1) | exact HB.out)⟩
                          · rw [if_neg c49] at H
                            have c49b0 : (t276 == 2) = false := beq_eq_false_iff_ne.mpr c49
                            have c49b1 : (t276 != 2) = true := bne_iff_ne.mpr c49
                            obtain rfl := Option.some.inj H
                            go_wp2_with (first | ((with_reducible refine gate_callee (f := 11) rfl ?_); refine goesL_ (some 183) rfl rfl Try.func11 (by kernel_rfl) rfl #[.slice A0 l0.length c0, .int .i64 2] rfl (by (try simp only [List.map_toArray, List.map_cons, List.map_nil]); first | done | rfl | (simp only [List.length_drop, List.length_take]; rfl)) ?_; (with_reducible refine (laws_alt.calls kj27 _ _ l0 2 t268 _ ?side1 ?side2 A42.out).mono ?_); (case side1 => repeat (first | exact (Kd.C_below HR0.out HB.out) | (with_reducible refine Kd.C_alloc ?_ _) | (with_reducible refine Kd.C_drewN ?_ _) | (with_reducible refine Kd.C_drew ?_))); (case side2 => exact HC0.out); rintro e w53 ⟨v269, rfl, ho0, hb⟩; refine ⟨_, rfl, ?_⟩; have n0_ := Aside0.mk (Kd.R_lower ho0 (below_size (by repeat (first | (with_reducible first | exact HB.out | apply below_alloc | apply pw_below_drewN | apply below_drew1) | exact HB.out)))); have n1_ := Aside0.mk (below_step (by repeat (first | (with_reducible first | exact HB.out | apply below_alloc | apply pw_below_drewN | apply below_drew1) | exact HB.out)) hb); clear HB; have HO270 := n0_; have HB := n1_; clear n0_ n1_; (try clear hb); (try clear hb2); (try clear hk); (try clear hi); (try clear ho0); obtain ⟨Ao54, co54, eo54⟩ := Kd.R_slice HO270.out; subst eo54) | ((with_reducible refine gate_callee (f := 14) rfl ?_); refine goesL_ (some 184) rfl rfl Try.func14 (by kernel_rfl) rfl #[.slice Ao54 t268.length co54] rfl (by (try simp only [List.map_toArray, List.map_cons, List.map_nil]); first | done | rfl | (simp only [List.length_drop, List.length_take]; rfl)) ?_; (with_reducible refine (spec_DrawCompareRatios.calls kj27 _ _ t268 t271 t272 t273 t274 _ ?side1 ?side2 A43.out).mono ?_); (case side1 => repeat (first | exact (Kd.R_reads' HO270.out).2.2 | (with_reducible refine Kd.C_alloc ?_ _) | (with_reducible refine Kd.C_drewN ?_ _) | (with_reducible refine Kd.C_drew ?_))); (case side2 => exact (Kd.R_reads' HO270.out).2.1); rintro e w55 ⟨rfl, hb⟩; refine ⟨_, rfl, ?_⟩; have n0_ := Aside0.mk (Kd.R_below (by (with_reducible repeat (first | apply Kd.R_alloc | apply Kd.R_drewN | apply Kd.R_drew)); exact HO270.out) hb); have n1_ := Aside0.mk (below_step (by repeat (first | (with_reducible first | exact HB.out | apply below_alloc | apply pw_below_drewN | apply below_drew1) | exact HB.out)) hb); clear HO270; clear HB; have HO270 := n0_; have HB := n1_; clear n0_ n1_; (try clear hb); (try clear hb2); (try clear hk); (try clear hi)) | ((with_reducible refine gate_callee (f := 15) rfl ?_); refine goesL_ (some 193) rfl rfl Try.func15 (by kernel_rfl) rfl #[.int .i64 t271, .int .i64 t272, .int .i64 t273, .int .i64 t274] rfl (by (try simp only [List.map_toArray, List.map_cons, List.map_nil]); first | done | rfl | (simp only [List.length_drop, List.length_take]; rfl)) ?_; (with_reducible refine (impl_CompareRatios.calls t271 t272 t273 t274 t275 _ A44.out).mono ?_); rintro e w' ⟨rfl, ⟨nd, rfl⟩⟩; refine ⟨_, rfl, ?_⟩) | ((with_reducible refine gate_callee (f := 15) rfl ?_); refine goesL_ (some 198) rfl rfl Try.func15 (by kernel_rfl) rfl #[.int .i64 t273, .int .i64 t274, .int .i64 t271, .int .i64 t272] rfl (by (try simp only [List.map_toArray, List.map_cons, List.map_nil]); first | done | rfl | (simp only [List.length_drop, List.length_take]; rfl)) ?_; (with_reducible refine (impl_CompareRatios.calls t273 t274 t271 t272 t276 _ A45.out).mono ?_); rintro e w' ⟨rfl, ⟨nd, rfl⟩⟩; refine ⟨_, rfl, ?_⟩) | ((with_reducible refine gate_callee (f := 16) rfl ?_); refine goesL_ (some 204) rfl rfl Try.func16 (by kernel_rfl) rfl #[.int .i64 t271, .int .i64 t272, .int .i64 t273, .int .i64 t274] rfl (by (try simp only [List.map_toArray, List.map_cons, List.map_nil]); first | done | rfl | (simp only [List.length_drop, List.length_take]; rfl)) ?_; (with_reducible refine (spec_CompareRatios.calls kj27 t271 t272 t273 t274 t277 _ A46.out).mono ?_); rintro e w' ⟨rfl, ⟨nd, rfl⟩⟩; refine ⟨_, rfl, ?_⟩))
                            go_ret
                            exact ⟨by first | rfl | (simp [errW_none, errW_some] <;> rfl) | (simp [*, errW_none, errW_some] <;> rfl), by repeat (first | (with_reducible first | exact HB.out | apply below_alloc | apply pw_below_drewN | apply below_drew1) | exact HB.out)⟩
                        · rw [if_neg c48] at H
                          have c48b0 : (t275 == 2) = false := beq_eq_false_iff_ne.mpr c48
                          have c48b1 : (t275 != 2) = true := bne_iff_ne.mpr c48
                          obtain rfl := Option.some.inj H
                          go_wp2_with (first | ((with_reducible refine gate_callee (f := 11) rfl ?_); refine goesL_ (some 183) rfl rfl Try.func11 (by kernel_rfl) rfl #[.slice A0 l0.length c0, .int .i64 2] rfl (by (try simp only [List.map_toArray, List.map_cons, List.map_nil]); first | done | rfl | (simp only [List.length_drop, List.length_take]; rfl)) ?_; (with_reducible refine (laws_alt.calls kj27 _ _ l0 2 t268 _ ?side1 ?side2 A42.out).mono ?_); (case side1 => repeat (first | exact (Kd.C_below HR0.out HB.out) | (with_reducible refine Kd.C_alloc ?_ _) | (with_reducible refine Kd.C_drewN ?_ _) | (with_reducible refine Kd.C_drew ?_))); (case side2 => exact HC0.out); rintro e w56 ⟨v269, rfl, ho0, hb⟩; refine ⟨_, rfl, ?_⟩; have n0_ := Aside0.mk (Kd.R_lower ho0 (below_size (by repeat (first | (with_reducible first | exact HB.out | apply below_alloc | apply pw_below_drewN | apply below_drew1) | exact HB.out)))); have n1_ := Aside0.mk (below_step (by repeat (first | (with_reducible first | exact HB.out | apply below_alloc | apply pw_below_drewN | apply below_drew1) | exact HB.out)) hb); clear HB; have HO270 := n0_; have HB := n1_; clear n0_ n1_; (try clear hb); (try clear hb2); (try clear hk); (try clear hi); (try clear ho0); obtain ⟨Ao57, co57, eo57⟩ := Kd.R_slice HO270.out; subst eo57) | ((with_reducible refine gate_callee (f := 14) rfl ?_); refine goesL_ (some 184) rfl rfl Try.func14 (by kernel_rfl) rfl #[.slice Ao57 t268.length co57] rfl (by (try simp only [List.map_toArray, List.map_cons, List.map_nil]); first | done | rfl | (simp only [List.length_drop, List.length_take]; rfl)) ?_; (with_reducible refine (spec_DrawCompareRatios.calls kj27 _ _ t268 t271 t272 t273 t274 _ ?side1 ?side2 A43.out).mono ?_); (case side1 => repeat (first | exact (Kd.R_reads' HO270.out).2.2 | (with_reducible refine Kd.C_alloc ?_ _) | (with_reducible refine Kd.C_drewN ?_ _) | (with_reducible refine Kd.C_drew ?_))); (case side2 => exact (Kd.R_reads' HO270.out).2.1); rintro e w58 ⟨rfl, hb⟩; refine ⟨_, rfl, ?_⟩; have n0_ := Aside0.mk (Kd.R_below (by (with_reducible repeat (first | apply Kd.R_alloc | apply Kd.R_drewN | apply Kd.R_drew)); exact HO270.out) hb); have n1_ := Aside0.mk (below_step (by repeat (first | (with_reducible first | exact HB.out | apply below_alloc | apply pw_below_drewN | apply below_drew1) | exact HB.out)) hb); clear HO270; clear HB; have HO270 := n0_; have HB := n1_; clear n0_ n1_; (try clear hb); (try clear hb2); (try clear hk); (try clear hi)) | ((with_reducible refine gate_callee (f := 15) rfl ?_); refine goesL_ (some 193) rfl rfl Try.func15 (by kernel_rfl) rfl #[.int .i64 t271, .int .i64 t272, .int .i64 t273, .int .i64 t274] rfl (by (try simp only [List.map_toArray, List.map_cons, List.map_nil]); first | done | rfl | (simp only [List.length_drop, List.length_take]; rfl)) ?_; (with_reducible refine (impl_CompareRatios.calls t271 t272 t273 t274 t275 _ A44.out).mono ?_); rintro e w' ⟨rfl, ⟨nd, rfl⟩⟩; refine ⟨_, rfl, ?_⟩) | ((with_reducible refine gate_callee (f := 15) rfl ?_); refine goesL_ (some 198) rfl rfl Try.func15 (by kernel_rfl) rfl #[.int .i64 t273, .int .i64 t274, .int .i64 t271, .int .i64 t272] rfl (by (try simp only [List.map_toArray, List.map_cons, List.map_nil]); first | done | rfl | (simp only [List.length_drop, List.length_take]; rfl)) ?_; (with_reducible refine (impl_CompareRatios.calls t273 t274 t271 t272 t276 _ A45.out).mono ?_); rintro e w' ⟨rfl, ⟨nd, rfl⟩⟩; refine ⟨_, rfl, ?_⟩) | ((with_reducible refine gate_callee (f := 16) rfl ?_); refine goesL_ (some 204) rfl rfl Try.func16 (by kernel_rfl) rfl #[.int .i64 t271, .int .i64 t272, .int .i64 t273, .int .i64 t274] rfl (by (try simp only [List.map_toArray, List.map_cons, List.map_nil]); first | done | rfl | (simp only [List.length_drop, List.length_take]; rfl)) ?_; (with_reducible refine (spec_CompareRatios.calls kj27 t271 t272 t273 t274 t277 _ A46.out).mono ?_); rintro e w' ⟨rfl, ⟨nd, rfl⟩⟩; refine ⟨_, rfl, ?_⟩))
                          go_ret
                          exact ⟨by first | rfl | (simp [errW_none, errW_some] <;> rfl) | (simp [*, errW_none, errW_some] <;> rfl), by repeat (first | (with_reducible first | exact HB.out | apply below_alloc | apply pw_below_drewN | apply below_drew1) | exact HB.out)⟩
                      · rw [if_neg c47] at H
                        have c47b0 : (t275 == t277) = false := beq_eq_false_iff_ne.mpr c47
                        have c47b1 : (t275 != t277) = true := bne_iff_ne.mpr c47
                        obtain rfl := Option.some.inj H
                        go_wp2_with (first | ((with_reducible refine gate_callee (f := 11) rfl ?_); refine goesL_ (some 183) rfl rfl Try.func11 (by kernel_rfl) rfl #[.slice A0 l0.length c0, .int .i64 2] rfl (by (try simp only [List.map_toArray, List.map_cons, List.map_nil]); first | done | rfl | (simp only [List.length_drop, List.length_take]; rfl)) ?_; (with_reducible refine (laws_alt.calls kj27 _ _ l0 2 t268 _ ?side1 ?side2 A42.out).mono ?_); (case side1 => repeat (first | exact (Kd.C_below HR0.out HB.out) | (with_reducible refine Kd.C_alloc ?_ _) | (with_reducible refine Kd.C_drewN ?_ _) | (with_reducible refine Kd.C_drew ?_))); (case side2 => exact HC0.out); rintro e w59 ⟨v269, rfl, ho0, hb⟩; refine ⟨_, rfl, ?_⟩; have n0_ := Aside0.mk (Kd.R_lower ho0 (below_size (by repeat (first | (with_reducible first | exact HB.out | apply below_alloc | apply pw_below_drewN | apply below_drew1) | exact HB.out)))); have n1_ := Aside0.mk (below_step (by repeat (first | (with_reducible first | exact HB.out | apply below_alloc | apply pw_below_drewN | apply below_drew1) | exact HB.out)) hb); clear HB; have HO270 := n0_; have HB := n1_; clear n0_ n1_; (try clear hb); (try clear hb2); (try clear hk); (try clear hi); (try clear ho0); obtain ⟨Ao60, co60, eo60⟩ := Kd.R_slice HO270.out; subst eo60) | ((with_reducible refine gate_callee (f := 14) rfl ?_); refine goesL_ (some 184) rfl rfl Try.func14 (by kernel_rfl) rfl #[.slice Ao60 t268.length co60] rfl (by (try simp only [List.map_toArray, List.map_cons, List.map_nil]); first | done | rfl | (simp only [List.length_drop, List.length_take]; rfl)) ?_; (with_reducible refine (spec_DrawCompareRatios.calls kj27 _ _ t268 t271 t272 t273 t274 _ ?side1 ?side2 A43.out).mono ?_); (case side1 => repeat (first | exact (Kd.R_reads' HO270.out).2.2 | (with_reducible refine Kd.C_alloc ?_ _) | (with_reducible refine Kd.C_drewN ?_ _) | (with_reducible refine Kd.C_drew ?_))); (case side2 => exact (Kd.R_reads' HO270.out).2.1); rintro e w61 ⟨rfl, hb⟩; refine ⟨_, rfl, ?_⟩; have n0_ := Aside0.mk (Kd.R_below (by (with_reducible repeat (first | apply Kd.R_alloc | apply Kd.R_drewN | apply Kd.R_drew)); exact HO270.out) hb); have n1_ := Aside0.mk (below_step (by repeat (first | (with_reducible first | exact HB.out | apply below_alloc | apply pw_below_drewN | apply below_drew1) | exact HB.out)) hb); clear HO270; clear HB; have HO270 := n0_; have HB := n1_; clear n0_ n1_; (try clear hb); (try clear hb2); (try clear hk); (try clear hi)) | ((with_reducible refine gate_callee (f := 15) rfl ?_); refine goesL_ (some 193) rfl rfl Try.func15 (by kernel_rfl) rfl #[.int .i64 t271, .int .i64 t272, .int .i64 t273, .int .i64 t274] rfl (by (try simp only [List.map_toArray, List.map_cons, List.map_nil]); first | done | rfl | (simp only [List.length_drop, List.length_take]; rfl)) ?_; (with_reducible refine (impl_CompareRatios.calls t271 t272 t273 t274 t275 _ A44.out).mono ?_); rintro e w' ⟨rfl, ⟨nd, rfl⟩⟩; refine ⟨_, rfl, ?_⟩) | ((with_reducible refine gate_callee (f := 15) rfl ?_); refine goesL_ (some 198) rfl rfl Try.func15 (by kernel_rfl) rfl #[.int .i64 t273, .int .i64 t274, .int .i64 t271, .int .i64 t272] rfl (by (try simp only [List.map_toArray, List.map_cons, List.map_nil]); first | done | rfl | (simp only [List.length_drop, List.length_take]; rfl)) ?_; (with_reducible refine (impl_CompareRatios.calls t273 t274 t271 t272 t276 _ A45.out).mono ?_); rintro e w' ⟨rfl, ⟨nd, rfl⟩⟩; refine ⟨_, rfl, ?_⟩) | ((with_reducible refine gate_callee (f := 16) rfl ?_); refine goesL_ (some 204) rfl rfl Try.func16 (by kernel_rfl) rfl #[.int .i64 t271, .int .i64 t272, .int .i64 t273, .int .i64 t274] rfl (by (try simp only [List.map_toArray, List.map_cons, List.map_nil]); first | done | rfl | (simp only [List.length_drop, List.length_take]; rfl)) ?_; (with_reducible refine (spec_CompareRatios.calls kj27 t271 t272 t273 t274 t277 _ A46.out).mono ?_); rintro e w' ⟨rfl, ⟨nd, rfl⟩⟩; refine ⟨_, rfl, ?_⟩))
                        go_ret
                        exact ⟨by first | rfl | (simp [errW_none, errW_some] <;> rfl) | (simp [*, errW_none, errW_some] <;> rfl), by repeat (first | (with_reducible first | exact HB.out | apply below_alloc | apply pw_below_drewN | apply below_drew1) | exact HB.out)⟩

end Go.Proofs.Ytebmlghhgccloaa.QE
