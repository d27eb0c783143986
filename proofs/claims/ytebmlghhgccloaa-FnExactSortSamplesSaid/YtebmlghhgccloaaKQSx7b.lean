/- Functions of the program that laws of this seat use: each returns what the Lean function of its name tells (where it tells some answer). Conditions: those that each theorem names. Written by a program of this session (wip/print/myprint.py) out of Lean's print of the loaded functions. -/
import Derived.Test.YtebmlghhgccloaaKFnCall
import Derived.Test.YtebmlghhgccloaaKQSx0
import Derived.Test.YtebmlghhgccloaaKQSx1
import Derived.Test.YtebmlghhgccloaaKQSx5
namespace Go.Proofs.Ytebmlghhgccloaa.QS
open Go.RowKit Go.Proofs.YtebmlghhgccloaaW.PrintWords Go.Proofs.YtebmlghhgccloaaW.PrintLast Go.Proofs.YtebmlghhgccloaaW.PrintMore
attribute [local go_sem] max2_int min2_int max_two min_two max_three min_three max_four min_four   -- for this text's walks alone
set_option linter.unusedVariables false
set_option linter.unusedSimpArgs false

set_option maxHeartbeats 8000000 in
set_option maxRecDepth 100000 in
theorem impl_Sample_63.calls2 (k : Nat) (P0_ : Nat → Prop) (u9000_ : Value) (l0 : List (S60)) (a1 : Int) (a2 : Int) (a3 : Int) (a4 : Int) (r : List (S60)) (w0 w : World) (hB : Below w0.heap.size w0 w) (ho0 : Kd.R k60 60 w w0.heap.size P0_ u9000_ l0)  (c6 : ¬ (wrap64 (a2 - a1)) = 1) (c33 : (wrap64 (a3 - a2)) = 1) (H : impl_Sample_63.l2 k l0 a2 a1 a2 = some r) :
    Calls Try.prog 63 #[u9000_, .int .i64 a1, .int .i64 a2, .int .i64 a3, .func (.func 47) #[] #[]] w fun e w' => e = .returned (.tuple #[]) ∧ Kd.R k60 60 w' w0.heap.size (fun k_ => (P0_ k_ ∨ w.heap.size ≤ k_)) u9000_ r ∧ Below w0.heap.size w0 w' ∧ Kept w w' (fun k_ => P0_ k_) := by
      have hu60 := Try.underlying60
      have HO0 := Aside0.mk (show Kd.R k60 60 w w0.heap.size (fun k_ => (P0_ k_ ∨ w.heap.size ≤ k_)) u9000_ l0 from Kd.R_mono ho0 (fun k_ hk => (.inl hk)))
      have HK := Aside0.mk (Kept.refl w (fun k_ => P0_ k_))
      have HW0 := Aside0.mk hB.size
      have HB := Aside0.mk hB
      clear hB
      have c6b0 : ((wrap64 (a2 - a1)) == 1) = false := beq_eq_false_iff_ne.mpr c6
      have c6b1 : ((wrap64 (a2 - a1)) != 1) = true := bne_iff_ne.mpr c6
      have c33b0 : ((wrap64 (a3 - a2)) == 1) = true := beq_iff_eq.mpr c33
      have c33b1 : ((wrap64 (a3 - a2)) != 1) = false := bne_eq_false_iff_eq.mpr c33
      clear c33
      have H' := Aside0.mk H
      clear H
      go_enter Try.func63, Try.ntmps63
      go_wp2
      go_loopg [14, 15] k (fun kq v14 v15 w' => ∃ (x14_1 : Int) (x15_1 : Int), v14 = .int .i64 x14_1 ∧ v15 = .int .i64 x15_1 ∧ Aside0 (impl_Sample_63.l2 kq l0 a2 x14_1 x15_1 = some r) ∧ Aside0 (kq ≤ k) ∧ Aside0 (Kd.R k60 60 w' w0.heap.size (fun k_ => (P0_ k_ ∨ w.heap.size ≤ k_)) u9000_ l0) ∧ Aside0 (Kept w w' (fun k_ => P0_ k_)) ∧ Aside0 (Below w0.heap.size w0 w'))
      case atStart => exact ⟨(a1), (a2), (by first | rfl | (simp; done) | (simp [*]; done)), (by first | rfl | (simp; done) | (simp [*]; done)), H', ⟨Nat.le_refl _⟩, ⟨by (with_reducible repeat (first | apply Kd.R_alloc | apply Kd.R_drewN | apply Kd.R_drew)); exact HO0.out⟩, ⟨by repeat (first | (with_reducible first | exact HK.out | apply Kept.alloc | apply Kept.drewN | apply Kept.drew) | exact HK.out)⟩, ⟨by repeat (first | (with_reducible first | exact HB.out | apply below_alloc | apply pw_below_drewN | apply below_drew1) | exact HB.out)⟩⟩
      case round =>
        clear H'
        try clear c1
        try clear p1
        try clear q1
        try clear hx1
        try clear c2
        try clear p2
        try clear q2
        try clear hx2
        try clear c3
        try clear c4
        try clear c6
        try clear c6b0
        try clear c6b1
        try clear p6
        try clear c7
        try clear c7b0
        try clear c9
        try clear c9b0
        try clear c10
        try clear c10b0
        try clear c11
        try clear c11b0
        try clear c12
        try clear c12b0
        try clear c14
        try clear c14b0
        try clear p18
        try clear q18
        try clear hx18
        try clear c21
        try clear c21b0
        try clear c23
        try clear c23b0
        try clear c24
        try clear c24b0
        try clear c25
        try clear c25b0
        try clear c26
        try clear c26b0
        try clear c27
        try clear p27
        try clear q27
        try clear hx27
        try clear hf27
        try clear c28
        try clear p28
        try clear q28
        try clear hx28
        try clear hf28
        try clear c31
        try clear c32
        try clear c33
        try clear c33b0
        try clear c33b1
        try clear hx183_0
        try clear hx183_1
        try clear hx183_2
        try clear hx183_3
        try clear hx184_0
        try clear hx184_1
        try clear hx184_2
        try clear hx184_3
        try clear hx186_0
        try clear hx186_1
        try clear hx186_2
        try clear hx186_3
        try clear hx187_0
        try clear hx187_1
        try clear hx187_2
        try clear hx187_3
        try clear hx27_0
        try clear hx27_1
        try clear hx27_2
        try clear hx27_3
        try clear hx28_0
        try clear hx28_1
        try clear hx28_2
        try clear hx28_3
        try clear p1
        try clear p18
        try clear p183
        try clear p184
        try clear p186
        try clear p187
        try clear p2
        try clear p27
        try clear p28
        try clear p6
        try clear q1
        try clear q18
        try clear q183
        try clear q184
        try clear q186
        try clear q187
        try clear q27
        try clear q28
        obtain ⟨x14_1, x15_1, rfl, rfl, HA, HK1, HO_0, HK, HB⟩ := hrel
        cases gk with
        | zero => exact absurd HA.out (by simp [impl_Sample_63.l2])
        | succ k1 =>
          have H := HA.out
          clear HA
          simp only [impl_Sample_63.l2] at H
          by_cases c34 : x14_1 < x15_1
          · rw [if_pos c34] at H
            have c34b0 : decide (x14_1 < x15_1) = true := decide_eq_true c34
            clear c34
            by_cases c35 : 0 ≤ a2
            · rw [if_pos c35] at H
              have c35b0 : decide (0 ≤ a2) = true := decide_eq_true c35
              clear c35
              by_cases c36 : a2 < (l0.length : Int)
              · rw [if_pos c36] at H
                have c36b0 : decide (a2 < (l0.length : Int)) = true := decide_eq_true c36
                clear c36
                obtain ⟨ji37, hji37⟩ : ∃ j_ : Int, (wrap64 ((IntKind.u64.wrap (wrap64 (x14_1 + x15_1))) / 2)) = j_ := ⟨_, rfl⟩
                replace H : (if 0 ≤ (ji37) then (if (ji37) < (l0.length : Int) then ((impl_SortSamples_closure1.f k1 ((rd_T60 l0 a2).f0) ((rd_T60 l0 a2).f1) ((rd_T60 l0 a2).f2) ((rd_T60 l0 a2).f3) ((rd_T60 l0 (ji37)).f0) ((rd_T60 l0 (ji37)).f1) ((rd_T60 l0 (ji37)).f2) ((rd_T60 l0 (ji37)).f3)).bind fun t192 => (if t192 < 0 then (impl_Sample_63.l2 k1 l0 a2 x14_1 ji37) else (impl_Sample_63.l2 k1 l0 a2 (wrap64 ((ji37) + 1)) x15_1))) else (none)) else (none)) = some r := by first | (rw [hji37] at H; exact H) | (simp only [hji37] at H ⊢; exact H)
                have hji37w : (IntKind.i64.wrap ((IntKind.u64.wrap (wrap64 (x14_1 + x15_1))) / 2)) = ji37 := (i64_w _).trans hji37
                by_cases c38 : 0 ≤ (ji37)
                · rw [if_pos c38] at H
                  have c38b0 : decide (0 ≤ (ji37)) = true := decide_eq_true c38
                  clear c38
                  by_cases c39 : (ji37) < (l0.length : Int)
                  · rw [if_pos c39] at H
                    have c39b0 : decide ((ji37) < (l0.length : Int)) = true := decide_eq_true c39
                    clear c39
                    replace H := Option.bind_eq_some_iff.mp H
                    obtain ⟨t192, A400, H⟩ := H
                    replace H : (if t192 < 0 then (impl_Sample_63.l2 k1 l0 a2 x14_1 ji37) else (impl_Sample_63.l2 k1 l0 a2 (wrap64 ((ji37) + 1)) x15_1)) = some r := H
                    have A40 := Aside0.mk A400
                    clear A400
                    by_cases c41 : t192 < 0
                    · rw [if_pos c41] at H
                      have c41b0 : decide (t192 < 0) = true := decide_eq_true c41
                      clear c41
                      have H' := Aside0.mk H
                      clear H
                      try go_wp2
                      have n0_ := Aside0.mk (Kd.R_drew HO_0.out)
                      have n1_ := Aside0.mk (Kept.drew HK.out)
                      have n2_ := Aside0.mk (below_drew1 HB.out)
                      clear HO_0
                      clear HK
                      clear HB
                      have HO_0 := n0_
                      have HK := n1_
                      have HB := n2_
                      clear n0_ n1_ n2_
                      obtain ⟨Ao43, co43, eo43⟩ := Kd.R_slice HO_0.out
                      (first | subst eo43 | (injection eo43 with f1_ f2_ f3_; have f4_ := f1_.symm; have f5_ := f3_.symm; clear f1_ f2_ f3_; subst f4_; subst f5_))
                      have p190 : 0 ≤ (a2 : Int) := of_decide_eq_true (by first | (with_reducible assumption) | assumption)
                      have q190 : a2 < (l0.length : Int) := of_decide_eq_true (by first | (with_reducible assumption) | assumption)
                      obtain ⟨ad190, e190, hx190_0, hx190_1, hx190_2, hx190_3⟩ := at_T60 (Kd.R_reads' HO_0.out).2.2 a2 p190 q190
                      cases e190
                      replace p190 := eq_true p190
                      replace q190 := eq_true q190
                      have p191 : 0 ≤ ((ji37) : Int) := of_decide_eq_true (by first | (with_reducible assumption) | assumption)
                      have q191 : (ji37) < (l0.length : Int) := of_decide_eq_true (by first | (with_reducible assumption) | assumption)
                      obtain ⟨ad191, e191, hx191_0, hx191_1, hx191_2, hx191_3⟩ := at_T60 (Kd.R_reads' HO_0.out).2.2 (ji37) p191 q191
                      obtain rfl : ad190 = ad191 := (by injection e191)
                      replace p191 := eq_true p191
                      replace q191 := eq_true q191
                      refine start_ (n := 12) (S := fun w' => w'.cell? (ad190.add ((a2).toNat * 4)) = some (.string ((rd_T60 l0 a2).f0)) ∧ w'.cell? ⟨(ad190.add ((a2).toNat * 4)).block, (ad190.add ((a2).toNat * 4)).off + 1, none⟩ = some (.string ((rd_T60 l0 a2).f1)) ∧ w'.cell? ⟨(ad190.add ((a2).toNat * 4)).block, (ad190.add ((a2).toNat * 4)).off + 2, none⟩ = some (.int .i64 ((rd_T60 l0 a2).f2)) ∧ w'.cell? ⟨(ad190.add ((a2).toNat * 4)).block, (ad190.add ((a2).toNat * 4)).off + 3, none⟩ = some (.int .i64 ((rd_T60 l0 a2).f3)) ∧ w'.cell? (ad190.add (((ji37)).toNat * 4)) = some (.string ((rd_T60 l0 (ji37)).f0)) ∧ w'.cell? ⟨(ad190.add (((ji37)).toNat * 4)).block, (ad190.add (((ji37)).toNat * 4)).off + 1, none⟩ = some (.string ((rd_T60 l0 (ji37)).f1)) ∧ w'.cell? ⟨(ad190.add (((ji37)).toNat * 4)).block, (ad190.add (((ji37)).toNat * 4)).off + 2, none⟩ = some (.int .i64 ((rd_T60 l0 (ji37)).f2)) ∧ w'.cell? ⟨(ad190.add (((ji37)).toNat * 4)).block, (ad190.add (((ji37)).toNat * 4)).off + 3, none⟩ = some (.int .i64 ((rd_T60 l0 (ji37)).f3))) (ds := []) #[false, false, false, false, false, false, false, false, false, false, false, false] (by kernel_rfl) rfl rfl ⟨hx190_0, hx190_1, hx190_2, hx190_3, hx191_0, hx191_1, hx191_2, hx191_3⟩ (fun hHeld => ?_); refine with_tabW impl_Sample_63.tab17 impl_Sample_63.bits17 (fun HT_ HW_ => ?_)
                      generalize wr.drew = w42 at HO_0 HK HB hx190_0 hx190_1 hx190_2 hx190_3 hx191_0 hx191_1 hx191_2 hx191_3 hHeld ⊢
                      refine pure_ (i := 0) (N := some 92) (v := ?_) (a' := ?_) #[true, false, false, false, false, false, false, false, false, false, false, false] rfl rfl (any_of HT_.out (by kernel_rfl)) (fun _ _ _ h => h) (Or.inl ⟨by rfl, ?_⟩) ?_ ?_
                      rotate_left
                      · intro w'
                        go_simp
                        with_reducible rfl
                      rotate_left
                      · simp only [Act.put, List.setIfInBounds_toArray, List.set_cons_zero, List.set_cons_succ, i64_w, i32_w]
                        rfl
                      refine pure_ (i := 1) (N := some 93) (v := ?_) (a' := ?_) #[true, true, false, false, false, false, false, false, false, false, false, false] rfl rfl (any_of HT_.out (by kernel_rfl)) (fun _ _ _ h => h) (Or.inl ⟨by rfl, ?_⟩) ?_ ?_
                      rotate_left
                      · intro w'
                        go_simp
                        with_reducible rfl
                      rotate_left
                      · simp only [Act.put, List.setIfInBounds_toArray, List.set_cons_zero, List.set_cons_succ, i64_w, i32_w]
                        rfl
                      refine pure_ (i := 2) (N := some 94) (v := ?_) (a' := ?_) #[true, true, true, false, false, false, false, false, false, false, false, false] rfl rfl (any_of HT_.out (by kernel_rfl)) (fun _ _ _ h => h) (Or.inl ⟨by rfl, ?_⟩) ?_ ?_
                      rotate_left
                      · intro w'
                        go_simp
                        with_reducible rfl
                      rotate_left
                      · simp only [Act.put, List.setIfInBounds_toArray, List.set_cons_zero, List.set_cons_succ, i64_w, i32_w]
                        rfl
                      refine pure_ (i := 3) (N := some 95) (v := ?_) (a' := ?_) #[true, true, true, true, false, false, false, false, false, false, false, false] rfl rfl (any_of HT_.out (by kernel_rfl)) (fun _ _ _ h => h) (Or.inl ⟨by rfl, ?_⟩) ?_ ?_
                      rotate_left
                      · intro w'
                        go_simp
                        with_reducible rfl
                      rotate_left
                      · simp only [Act.put, List.setIfInBounds_toArray, List.set_cons_zero, List.set_cons_succ, i64_w, i32_w]
                        rfl
                      refine pure_ (i := 5) (N := some 97) (v := ?_) (a' := ?_) #[true, true, true, true, false, true, false, false, false, false, false, false] rfl rfl (any_of HT_.out (by kernel_rfl)) (fun _ _ _ h => h) (Or.inl ⟨by rfl, ?_⟩) ?_ ?_
                      rotate_left
                      · intro w'
                        go_simp
                        with_reducible rfl
                      rotate_left
                      · simp only [Act.put, List.setIfInBounds_toArray, List.set_cons_zero, List.set_cons_succ, i64_w, i32_w]
                        rfl
                      refine pure_ (i := 6) (N := some 98) (v := ?_) (a' := ?_) #[true, true, true, true, false, true, true, false, false, false, false, false] rfl rfl (any_of HT_.out (by kernel_rfl)) (fun _ _ _ h => h) (Or.inl ⟨by rfl, ?_⟩) ?_ ?_
                      rotate_left
                      · intro w'
                        go_simp
                        with_reducible rfl
                      rotate_left
                      · simp only [Act.put, List.setIfInBounds_toArray, List.set_cons_zero, List.set_cons_succ, i64_w, i32_w]
                        rfl
                      refine pure_ (i := 7) (N := some 99) (v := ?_) (a' := ?_) #[true, true, true, true, false, true, true, true, false, false, false, false] rfl rfl (any_of HT_.out (by kernel_rfl)) (fun _ _ _ h => h) (Or.inl ⟨by rfl, ?_⟩) ?_ ?_
                      rotate_left
                      · intro w'
                        go_simp
                        with_reducible rfl
                      rotate_left
                      · simp only [Act.put, List.setIfInBounds_toArray, List.set_cons_zero, List.set_cons_succ, i64_w, i32_w]
                        rfl
                      refine take_ (i := 4) (N := some 96) (v := ?_) (a' := ?_) #[true, true, true, true, true, true, true, true, false, false, false, false] rfl rfl (take_ofW HT_.out HW_.out (by kernel_rfl)) (fun _ _ _ h => h) (Or.inl ⟨by rfl, ?_⟩) hHeld ?_ ?_
                      rotate_left
                      · rintro w' ⟨s0, s1, s2, s3, s4, s5, s6, s7⟩
                        go_simp
                        with_reducible rfl
                      rotate_left
                      · simp only [Act.put, List.setIfInBounds_toArray, List.set_cons_zero, List.set_cons_succ, i64_w, i32_w]
                        rfl
                      refine take_ (i := 8) (N := some 100) (v := ?_) (a' := ?_) #[true, true, true, true, true, true, true, true, true, false, false, false] rfl rfl (take_ofW HT_.out HW_.out (by kernel_rfl)) (fun _ _ _ h => h) (Or.inl ⟨by rfl, ?_⟩) hHeld ?_ ?_
                      rotate_left
                      · rintro w' ⟨s0, s1, s2, s3, s4, s5, s6, s7⟩
                        go_simp
                        with_reducible rfl
                      rotate_left
                      · simp only [Act.put, List.setIfInBounds_toArray, List.set_cons_zero, List.set_cons_succ, i64_w, i32_w]
                        rfl
                      refine one_ (i := 9) (N := some 101) #[true, true, true, true, true, true, true, true, true, true, false, false] rfl rfl (one_of HT_.out (by kernel_rfl)) (by decide) (fun K hK => ?_)
                      refine FnCall.goesF_ Try.func47 (by kernel_rfl) rfl #[.agg #[.string ((rd_T60 l0 a2).f0), .string ((rd_T60 l0 a2).f1), .int .i64 ((rd_T60 l0 a2).f2), .int .i64 ((rd_T60 l0 a2).f3)], .agg #[.string ((rd_T60 l0 (ji37)).f0), .string ((rd_T60 l0 (ji37)).f1), .int .i64 ((rd_T60 l0 (ji37)).f2), .int .i64 ((rd_T60 l0 (ji37)).f3)]] (by rfl) rfl rfl (by rfl) (by (try simp only [List.map_toArray, List.map_cons, List.map_nil]); first | done | (simp only [hji37]; rfl) | rfl | (simp only [List.length_drop, List.length_take]; rfl)) ?_
                      with_reducible refine (impl_SortSamples_closure1.calls k1 ((rd_T60 l0 a2).f0) ((rd_T60 l0 a2).f1) ((rd_T60 l0 a2).f2) ((rd_T60 l0 a2).f3) ((rd_T60 l0 (ji37)).f0) ((rd_T60 l0 (ji37)).f1) ((rd_T60 l0 (ji37)).f2) ((rd_T60 l0 (ji37)).f3) t192 _ A40.out).mono ?_
                      rintro e w44 ⟨rfl, hb⟩
                      have HS0_ := (hb.cell (World.block_lt_of_cell? _ _ (hHeld.1))).trans (hHeld.1)
                      have HS1_ := (hb.cell (World.block_lt_of_cell? _ _ (hHeld.2.1))).trans (hHeld.2.1)
                      have HS2_ := (hb.cell (World.block_lt_of_cell? _ _ (hHeld.2.2.1))).trans (hHeld.2.2.1)
                      have HS3_ := (hb.cell (World.block_lt_of_cell? _ _ (hHeld.2.2.2.1))).trans (hHeld.2.2.2.1)
                      have HS4_ := (hb.cell (World.block_lt_of_cell? _ _ (hHeld.2.2.2.2.1))).trans (hHeld.2.2.2.2.1)
                      have HS5_ := (hb.cell (World.block_lt_of_cell? _ _ (hHeld.2.2.2.2.2.1))).trans (hHeld.2.2.2.2.2.1)
                      have HS6_ := (hb.cell (World.block_lt_of_cell? _ _ (hHeld.2.2.2.2.2.2.1))).trans (hHeld.2.2.2.2.2.2.1)
                      have HS7_ := (hb.cell (World.block_lt_of_cell? _ _ (hHeld.2.2.2.2.2.2.2))).trans (hHeld.2.2.2.2.2.2.2)
                      refine ⟨_, rfl, ?_⟩
                      have n0_ := Aside0.mk (Kd.R_below (by (with_reducible repeat (first | apply Kd.R_alloc | apply Kd.R_drewN | apply Kd.R_drew)); exact HO_0.out) hb)
                      have n1_ := Aside0.mk (Kept.below (S := (fun k_ => P0_ k_)) (by repeat (first | (with_reducible first | exact HK.out | apply Kept.alloc | apply Kept.drewN | apply Kept.drew) | exact HK.out)) hb)
                      have n2_ := Aside0.mk (below_step (by repeat (first | (with_reducible first | exact HB.out | apply below_alloc | apply pw_below_drewN | apply below_drew1) | exact HB.out)) hb)
                      clear HO_0
                      clear HK
                      clear HB
                      have HO_0 := n0_
                      have HK := n1_
                      have HB := n2_
                      clear n0_ n1_ n2_
                      (try clear hb)
                      (try clear hb2)
                      (try clear hk)
                      (try clear hi)
                      refine hK.out _ _ ⟨HS0_, HS1_, HS2_, HS3_, HS4_, HS5_, HS6_, HS7_⟩ (fun hHeld => ?_)
                      clear hK K
                      refine norm_ (a' := ?_) ?_ ?_
                      rotate_left
                      · show Act.put _ (some 101) _ = _
                        simp only [Act.put, List.setIfInBounds_toArray, List.set_cons_zero, List.set_cons_succ, i64_w, i32_w]
                        rfl
                      refine pure_ (i := 10) (N := some 102) (v := ?_) (a' := ?_) #[true, true, true, true, true, true, true, true, true, true, true, false] rfl rfl (any_of HT_.out (by kernel_rfl)) (fun _ _ _ h => h) (Or.inl ⟨by rfl, ?_⟩) ?_ ?_
                      rotate_left
                      · intro w'
                        go_simp
                        with_reducible rfl
                      rotate_left
                      · simp only [Act.put, List.setIfInBounds_toArray, List.set_cons_zero, List.set_cons_succ, i64_w, i32_w]
                        rfl
                      refine pure_ (i := 11) (N := some 103) (v := ?_) (a' := ?_) #[true, true, true, true, true, true, true, true, true, true, true, true] rfl rfl (any_of HT_.out (by kernel_rfl)) (fun _ _ _ h => h) (Or.inl ⟨by rfl, ?_⟩) ?_ ?_
                      rotate_left
                      · intro w'
                        go_simp
                        with_reducible rfl
                      rotate_left
                      · simp only [Act.put, List.setIfInBounds_toArray, List.set_cons_zero, List.set_cons_succ, i64_w, i32_w]
                        rfl
                      refine done_ (done_of HT_.out (by kernel_rfl)) ?_
                      try go_wp2
                      go_roundg k1
                      case measure => have := HK1.out; omega
                      case rel => exact ⟨(x14_1), (ji37), (by first | rfl | (simp; done) | (simp [*]; done)), (by first | rfl | (simp; done) | (simp only [← hji37] <;> (first | rfl | simp)) | (simp [*]; done)), H', ⟨by have := HK1.out; omega⟩, ⟨by (with_reducible repeat (first | apply Kd.R_alloc | apply Kd.R_drewN | apply Kd.R_drew)); exact HO_0.out⟩, ⟨by repeat (first | (with_reducible first | exact HK.out | apply Kept.alloc | apply Kept.drewN | apply Kept.drew) | exact HK.out)⟩, ⟨by repeat (first | (with_reducible first | exact HB.out | apply below_alloc | apply pw_below_drewN | apply below_drew1) | exact HB.out)⟩⟩
                    · rw [if_neg c41] at H
                      have c41b0 : decide (t192 < 0) = false := decide_eq_false c41
                      clear c41
                      have H' := Aside0.mk H
                      clear H
                      try go_wp2
                      have n0_ := Aside0.mk (Kd.R_drew HO_0.out)
                      have n1_ := Aside0.mk (Kept.drew HK.out)
                      have n2_ := Aside0.mk (below_drew1 HB.out)
                      clear HO_0
                      clear HK
                      clear HB
                      have HO_0 := n0_
                      have HK := n1_
                      have HB := n2_
                      clear n0_ n1_ n2_
                      obtain ⟨Ao46, co46, eo46⟩ := Kd.R_slice HO_0.out
                      (first | subst eo46 | (injection eo46 with f1_ f2_ f3_; have f4_ := f1_.symm; have f5_ := f3_.symm; clear f1_ f2_ f3_; subst f4_; subst f5_))
                      have p190 : 0 ≤ (a2 : Int) := of_decide_eq_true (by first | (with_reducible assumption) | assumption)
                      have q190 : a2 < (l0.length : Int) := of_decide_eq_true (by first | (with_reducible assumption) | assumption)
                      obtain ⟨ad190, e190, hx190_0, hx190_1, hx190_2, hx190_3⟩ := at_T60 (Kd.R_reads' HO_0.out).2.2 a2 p190 q190
                      cases e190
                      replace p190 := eq_true p190
                      replace q190 := eq_true q190
                      have p191 : 0 ≤ ((ji37) : Int) := of_decide_eq_true (by first | (with_reducible assumption) | assumption)
                      have q191 : (ji37) < (l0.length : Int) := of_decide_eq_true (by first | (with_reducible assumption) | assumption)
                      obtain ⟨ad191, e191, hx191_0, hx191_1, hx191_2, hx191_3⟩ := at_T60 (Kd.R_reads' HO_0.out).2.2 (ji37) p191 q191
                      obtain rfl : ad190 = ad191 := (by injection e191)
                      replace p191 := eq_true p191
                      replace q191 := eq_true q191
                      refine start_ (n := 12) (S := fun w' => w'.cell? (ad190.add ((a2).toNat * 4)) = some (.string ((rd_T60 l0 a2).f0)) ∧ w'.cell? ⟨(ad190.add ((a2).toNat * 4)).block, (ad190.add ((a2).toNat * 4)).off + 1, none⟩ = some (.string ((rd_T60 l0 a2).f1)) ∧ w'.cell? ⟨(ad190.add ((a2).toNat * 4)).block, (ad190.add ((a2).toNat * 4)).off + 2, none⟩ = some (.int .i64 ((rd_T60 l0 a2).f2)) ∧ w'.cell? ⟨(ad190.add ((a2).toNat * 4)).block, (ad190.add ((a2).toNat * 4)).off + 3, none⟩ = some (.int .i64 ((rd_T60 l0 a2).f3)) ∧ w'.cell? (ad190.add (((ji37)).toNat * 4)) = some (.string ((rd_T60 l0 (ji37)).f0)) ∧ w'.cell? ⟨(ad190.add (((ji37)).toNat * 4)).block, (ad190.add (((ji37)).toNat * 4)).off + 1, none⟩ = some (.string ((rd_T60 l0 (ji37)).f1)) ∧ w'.cell? ⟨(ad190.add (((ji37)).toNat * 4)).block, (ad190.add (((ji37)).toNat * 4)).off + 2, none⟩ = some (.int .i64 ((rd_T60 l0 (ji37)).f2)) ∧ w'.cell? ⟨(ad190.add (((ji37)).toNat * 4)).block, (ad190.add (((ji37)).toNat * 4)).off + 3, none⟩ = some (.int .i64 ((rd_T60 l0 (ji37)).f3))) (ds := []) #[false, false, false, false, false, false, false, false, false, false, false, false] (by kernel_rfl) rfl rfl ⟨hx190_0, hx190_1, hx190_2, hx190_3, hx191_0, hx191_1, hx191_2, hx191_3⟩ (fun hHeld => ?_); refine with_tabW impl_Sample_63.tab17 impl_Sample_63.bits17 (fun HT_ HW_ => ?_)
                      generalize wr.drew = w45 at HO_0 HK HB hx190_0 hx190_1 hx190_2 hx190_3 hx191_0 hx191_1 hx191_2 hx191_3 hHeld ⊢
                      refine pure_ (i := 0) (N := some 92) (v := ?_) (a' := ?_) #[true, false, false, false, false, false, false, false, false, false, false, false] rfl rfl (any_of HT_.out (by kernel_rfl)) (fun _ _ _ h => h) (Or.inl ⟨by rfl, ?_⟩) ?_ ?_
                      rotate_left
                      · intro w'
                        go_simp
                        with_reducible rfl
                      rotate_left
                      · simp only [Act.put, List.setIfInBounds_toArray, List.set_cons_zero, List.set_cons_succ, i64_w, i32_w]
                        rfl
                      refine pure_ (i := 1) (N := some 93) (v := ?_) (a' := ?_) #[true, true, false, false, false, false, false, false, false, false, false, false] rfl rfl (any_of HT_.out (by kernel_rfl)) (fun _ _ _ h => h) (Or.inl ⟨by rfl, ?_⟩) ?_ ?_
                      rotate_left
                      · intro w'
                        go_simp
                        with_reducible rfl
                      rotate_left
                      · simp only [Act.put, List.setIfInBounds_toArray, List.set_cons_zero, List.set_cons_succ, i64_w, i32_w]
                        rfl
                      refine pure_ (i := 2) (N := some 94) (v := ?_) (a' := ?_) #[true, true, true, false, false, false, false, false, false, false, false, false] rfl rfl (any_of HT_.out (by kernel_rfl)) (fun _ _ _ h => h) (Or.inl ⟨by rfl, ?_⟩) ?_ ?_
                      rotate_left
                      · intro w'
                        go_simp
                        with_reducible rfl
                      rotate_left
                      · simp only [Act.put, List.setIfInBounds_toArray, List.set_cons_zero, List.set_cons_succ, i64_w, i32_w]
                        rfl
                      refine pure_ (i := 3) (N := some 95) (v := ?_) (a' := ?_) #[true, true, true, true, false, false, false, false, false, false, false, false] rfl rfl (any_of HT_.out (by kernel_rfl)) (fun _ _ _ h => h) (Or.inl ⟨by rfl, ?_⟩) ?_ ?_
                      rotate_left
                      · intro w'
                        go_simp
                        with_reducible rfl
                      rotate_left
                      · simp only [Act.put, List.setIfInBounds_toArray, List.set_cons_zero, List.set_cons_succ, i64_w, i32_w]
                        rfl
                      refine pure_ (i := 5) (N := some 97) (v := ?_) (a' := ?_) #[true, true, true, true, false, true, false, false, false, false, false, false] rfl rfl (any_of HT_.out (by kernel_rfl)) (fun _ _ _ h => h) (Or.inl ⟨by rfl, ?_⟩) ?_ ?_
                      rotate_left
                      · intro w'
                        go_simp
                        with_reducible rfl
                      rotate_left
                      · simp only [Act.put, List.setIfInBounds_toArray, List.set_cons_zero, List.set_cons_succ, i64_w, i32_w]
                        rfl
                      refine pure_ (i := 6) (N := some 98) (v := ?_) (a' := ?_) #[true, true, true, true, false, true, true, false, false, false, false, false] rfl rfl (any_of HT_.out (by kernel_rfl)) (fun _ _ _ h => h) (Or.inl ⟨by rfl, ?_⟩) ?_ ?_
                      rotate_left
                      · intro w'
                        go_simp
                        with_reducible rfl
                      rotate_left
                      · simp only [Act.put, List.setIfInBounds_toArray, List.set_cons_zero, List.set_cons_succ, i64_w, i32_w]
                        rfl
                      refine pure_ (i := 7) (N := some 99) (v := ?_) (a' := ?_) #[true, true, true, true, false, true, true, true, false, false, false, false] rfl rfl (any_of HT_.out (by kernel_rfl)) (fun _ _ _ h => h) (Or.inl ⟨by rfl, ?_⟩) ?_ ?_
                      rotate_left
                      · intro w'
                        go_simp
                        with_reducible rfl
                      rotate_left
                      · simp only [Act.put, List.setIfInBounds_toArray, List.set_cons_zero, List.set_cons_succ, i64_w, i32_w]
                        rfl
                      refine take_ (i := 4) (N := some 96) (v := ?_) (a' := ?_) #[true, true, true, true, true, true, true, true, false, false, false, false] rfl rfl (take_ofW HT_.out HW_.out (by kernel_rfl)) (fun _ _ _ h => h) (Or.inl ⟨by rfl, ?_⟩) hHeld ?_ ?_
                      rotate_left
                      · rintro w' ⟨s0, s1, s2, s3, s4, s5, s6, s7⟩
                        go_simp
                        with_reducible rfl
                      rotate_left
                      · simp only [Act.put, List.setIfInBounds_toArray, List.set_cons_zero, List.set_cons_succ, i64_w, i32_w]
                        rfl
                      refine take_ (i := 8) (N := some 100) (v := ?_) (a' := ?_) #[true, true, true, true, true, true, true, true, true, false, false, false] rfl rfl (take_ofW HT_.out HW_.out (by kernel_rfl)) (fun _ _ _ h => h) (Or.inl ⟨by rfl, ?_⟩) hHeld ?_ ?_
                      rotate_left
                      · rintro w' ⟨s0, s1, s2, s3, s4, s5, s6, s7⟩
                        go_simp
                        with_reducible rfl
                      rotate_left
                      · simp only [Act.put, List.setIfInBounds_toArray, List.set_cons_zero, List.set_cons_succ, i64_w, i32_w]
                        rfl
                      refine one_ (i := 9) (N := some 101) #[true, true, true, true, true, true, true, true, true, true, false, false] rfl rfl (one_of HT_.out (by kernel_rfl)) (by decide) (fun K hK => ?_)
                      refine FnCall.goesF_ Try.func47 (by kernel_rfl) rfl #[.agg #[.string ((rd_T60 l0 a2).f0), .string ((rd_T60 l0 a2).f1), .int .i64 ((rd_T60 l0 a2).f2), .int .i64 ((rd_T60 l0 a2).f3)], .agg #[.string ((rd_T60 l0 (ji37)).f0), .string ((rd_T60 l0 (ji37)).f1), .int .i64 ((rd_T60 l0 (ji37)).f2), .int .i64 ((rd_T60 l0 (ji37)).f3)]] (by rfl) rfl rfl (by rfl) (by (try simp only [List.map_toArray, List.map_cons, List.map_nil]); first | done | (simp only [hji37]; rfl) | rfl | (simp only [List.length_drop, List.length_take]; rfl)) ?_
                      with_reducible refine (impl_SortSamples_closure1.calls k1 ((rd_T60 l0 a2).f0) ((rd_T60 l0 a2).f1) ((rd_T60 l0 a2).f2) ((rd_T60 l0 a2).f3) ((rd_T60 l0 (ji37)).f0) ((rd_T60 l0 (ji37)).f1) ((rd_T60 l0 (ji37)).f2) ((rd_T60 l0 (ji37)).f3) t192 _ A40.out).mono ?_
                      rintro e w47 ⟨rfl, hb⟩
                      have HS0_ := (hb.cell (World.block_lt_of_cell? _ _ (hHeld.1))).trans (hHeld.1)
                      have HS1_ := (hb.cell (World.block_lt_of_cell? _ _ (hHeld.2.1))).trans (hHeld.2.1)
                      have HS2_ := (hb.cell (World.block_lt_of_cell? _ _ (hHeld.2.2.1))).trans (hHeld.2.2.1)
                      have HS3_ := (hb.cell (World.block_lt_of_cell? _ _ (hHeld.2.2.2.1))).trans (hHeld.2.2.2.1)
                      have HS4_ := (hb.cell (World.block_lt_of_cell? _ _ (hHeld.2.2.2.2.1))).trans (hHeld.2.2.2.2.1)
                      have HS5_ := (hb.cell (World.block_lt_of_cell? _ _ (hHeld.2.2.2.2.2.1))).trans (hHeld.2.2.2.2.2.1)
                      have HS6_ := (hb.cell (World.block_lt_of_cell? _ _ (hHeld.2.2.2.2.2.2.1))).trans (hHeld.2.2.2.2.2.2.1)
                      have HS7_ := (hb.cell (World.block_lt_of_cell? _ _ (hHeld.2.2.2.2.2.2.2))).trans (hHeld.2.2.2.2.2.2.2)
                      refine ⟨_, rfl, ?_⟩
                      have n0_ := Aside0.mk (Kd.R_below (by (with_reducible repeat (first | apply Kd.R_alloc | apply Kd.R_drewN | apply Kd.R_drew)); exact HO_0.out) hb)
                      have n1_ := Aside0.mk (Kept.below (S := (fun k_ => P0_ k_)) (by repeat (first | (with_reducible first | exact HK.out | apply Kept.alloc | apply Kept.drewN | apply Kept.drew) | exact HK.out)) hb)
                      have n2_ := Aside0.mk (below_step (by repeat (first | (with_reducible first | exact HB.out | apply below_alloc | apply pw_below_drewN | apply below_drew1) | exact HB.out)) hb)
                      clear HO_0
                      clear HK
                      clear HB
                      have HO_0 := n0_
                      have HK := n1_
                      have HB := n2_
                      clear n0_ n1_ n2_
                      (try clear hb)
                      (try clear hb2)
                      (try clear hk)
                      (try clear hi)
                      refine hK.out _ _ ⟨HS0_, HS1_, HS2_, HS3_, HS4_, HS5_, HS6_, HS7_⟩ (fun hHeld => ?_)
                      clear hK K
                      refine norm_ (a' := ?_) ?_ ?_
                      rotate_left
                      · show Act.put _ (some 101) _ = _
                        simp only [Act.put, List.setIfInBounds_toArray, List.set_cons_zero, List.set_cons_succ, i64_w, i32_w]
                        rfl
                      refine pure_ (i := 10) (N := some 102) (v := ?_) (a' := ?_) #[true, true, true, true, true, true, true, true, true, true, true, false] rfl rfl (any_of HT_.out (by kernel_rfl)) (fun _ _ _ h => h) (Or.inl ⟨by rfl, ?_⟩) ?_ ?_
                      rotate_left
                      · intro w'
                        go_simp
                        with_reducible rfl
                      rotate_left
                      · simp only [Act.put, List.setIfInBounds_toArray, List.set_cons_zero, List.set_cons_succ, i64_w, i32_w]
                        rfl
                      refine pure_ (i := 11) (N := some 103) (v := ?_) (a' := ?_) #[true, true, true, true, true, true, true, true, true, true, true, true] rfl rfl (any_of HT_.out (by kernel_rfl)) (fun _ _ _ h => h) (Or.inl ⟨by rfl, ?_⟩) ?_ ?_
                      rotate_left
                      · intro w'
                        go_simp
                        with_reducible rfl
                      rotate_left
                      · simp only [Act.put, List.setIfInBounds_toArray, List.set_cons_zero, List.set_cons_succ, i64_w, i32_w]
                        rfl
                      refine done_ (done_of HT_.out (by kernel_rfl)) ?_
                      try go_wp2
                      go_roundg k1
                      case measure => have := HK1.out; omega
                      case rel => exact ⟨(wrap64 ((ji37) + 1)), (x15_1), (by first | rfl | (simp; done) | (simp only [← hji37] <;> (first | rfl | simp)) | (simp [*]; done)), (by first | rfl | (simp; done) | (simp [*]; done)), H', ⟨by have := HK1.out; omega⟩, ⟨by (with_reducible repeat (first | apply Kd.R_alloc | apply Kd.R_drewN | apply Kd.R_drew)); exact HO_0.out⟩, ⟨by repeat (first | (with_reducible first | exact HK.out | apply Kept.alloc | apply Kept.drewN | apply Kept.drew) | exact HK.out)⟩, ⟨by repeat (first | (with_reducible first | exact HB.out | apply below_alloc | apply pw_below_drewN | apply below_drew1) | exact HB.out)⟩⟩
                  · rw [if_neg c39] at H
                    exact absurd H (by simp)
                · rw [if_neg c38] at H
                  exact absurd H (by simp)
              · rw [if_neg c36] at H
                exact absurd H (by simp)
            · rw [if_neg c35] at H
              exact absurd H (by simp)
          · rw [if_neg c34] at H
            have c34b0 : decide (x14_1 < x15_1) = false := decide_eq_false c34
            clear c34
            have H' := Aside0.mk H
            clear H
            go_wp2
            go_loopg [17] k1 (fun kq v17 w' => ∃ (x0_2 : List (S60)) (x17_2 : Int), v17 = .int .i64 x17_2 ∧ Aside0 (impl_Sample_63.l3 kq x0_2 x14_1 x17_2 = some r) ∧ Aside0 (kq ≤ k1) ∧ Aside0 (Kd.R k60 60 w' w0.heap.size (fun k_ => (P0_ k_ ∨ w.heap.size ≤ k_)) u9000_ x0_2) ∧ Aside0 (Kept w w' (fun k_ => P0_ k_)) ∧ Aside0 (Below w0.heap.size w0 w'))
            case atStart => exact ⟨(l0), (a2), (by first | rfl | (simp; done) | (simp [*]; done)), H', ⟨Nat.le_refl _⟩, ⟨by (with_reducible repeat (first | apply Kd.R_alloc | apply Kd.R_drewN | apply Kd.R_drew)); exact HO_0.out⟩, ⟨by repeat (first | (with_reducible first | exact HK.out | apply Kept.alloc | apply Kept.drewN | apply Kept.drew) | exact HK.out)⟩, ⟨by repeat (first | (with_reducible first | exact HB.out | apply below_alloc | apply pw_below_drewN | apply below_drew1) | exact HB.out)⟩⟩
            case round =>
              clear H'
              try clear c1
              try clear p1
              try clear q1
              try clear hx1
              try clear c2
              try clear p2
              try clear q2
              try clear hx2
              try clear c3
              try clear c4
              try clear c6
              try clear c6b0
              try clear c6b1
              try clear p6
              try clear c7
              try clear c7b0
              try clear c9
              try clear c9b0
              try clear c10
              try clear c10b0
              try clear c11
              try clear c11b0
              try clear c12
              try clear c12b0
              try clear c14
              try clear c14b0
              try clear p18
              try clear q18
              try clear hx18
              try clear p19
              try clear q19
              try clear hx19
              try clear c21
              try clear c21b0
              try clear c23
              try clear c23b0
              try clear c24
              try clear c24b0
              try clear c25
              try clear c25b0
              try clear c26
              try clear c26b0
              try clear c27
              try clear p27
              try clear q27
              try clear hx27
              try clear hf27
              try clear c28
              try clear p28
              try clear q28
              try clear hx28
              try clear hf28
              try clear c31
              try clear c32
              try clear c33
              try clear c33b0
              try clear c33b1
              try clear c34
              try clear c34b0
              try clear c35
              try clear c35b0
              try clear c36
              try clear c36b0
              try clear c38
              try clear c38b0
              try clear c39
              try clear c39b0
              try clear c41
              try clear c41b0
              try clear c47
              try clear hx183_0
              try clear hx183_1
              try clear hx183_2
              try clear hx183_3
              try clear hx184_0
              try clear hx184_1
              try clear hx184_2
              try clear hx184_3
              try clear hx186_0
              try clear hx186_1
              try clear hx186_2
              try clear hx186_3
              try clear hx187_0
              try clear hx187_1
              try clear hx187_2
              try clear hx187_3
              try clear hx190_0
              try clear hx190_1
              try clear hx190_2
              try clear hx190_3
              try clear hx191_0
              try clear hx191_1
              try clear hx191_2
              try clear hx191_3
              try clear hx27_0
              try clear hx27_1
              try clear hx27_2
              try clear hx27_3
              try clear hx28_0
              try clear hx28_1
              try clear hx28_2
              try clear hx28_3
              try clear p1
              try clear p18
              try clear p183
              try clear p184
              try clear p186
              try clear p187
              try clear p190
              try clear p191
              try clear p2
              try clear p27
              try clear p28
              try clear p6
              try clear q1
              try clear q18
              try clear q183
              try clear q184
              try clear q186
              try clear q187
              try clear q190
              try clear q191
              try clear q2
              try clear q27
              try clear q28
              obtain ⟨x0_2, x17_2, rfl, HA, HK2, HO_0, HK, HB⟩ := hrel
              cases gk with
              | zero => exact absurd HA.out (by simp [impl_Sample_63.l3])
              | succ k2 =>
                have H := HA.out
                clear HA
                simp only [impl_Sample_63.l3] at H
                by_cases c48 : x17_2 > x14_1
                · rw [if_pos c48] at H
                  have c48b0 : decide (x14_1 < x17_2) = true := decide_eq_true c48
                  clear c48
                  obtain ⟨ji49, hji49⟩ : ∃ j_ : Int, (wrap64 (x17_2 - 1)) = j_ := ⟨_, rfl⟩
                  replace H : (if 0 ≤ (ji49) then (if (ji49) < (x0_2.length : Int) then (if 0 ≤ x17_2 then (if x17_2 < (x0_2.length : Int) then (impl_Sample_63.l3 k2 ((x0_2.set (x17_2 : Int).toNat (⟨(rd_T60 x0_2 (ji49)).f0, (rd_T60 x0_2 (ji49)).f1, (rd_T60 x0_2 (ji49)).f2, (rd_T60 x0_2 (ji49)).f3⟩ : S60)).set ((ji49) : Int).toNat (⟨(rd_T60 x0_2 x17_2).f0, (rd_T60 x0_2 x17_2).f1, (rd_T60 x0_2 x17_2).f2, (rd_T60 x0_2 x17_2).f3⟩ : S60)) x14_1 ji49) else (none)) else (none)) else (none)) else (none)) = some r := by first | (rw [hji49] at H; exact H) | (simp only [hji49] at H ⊢; exact H)
                  have hji49w : (IntKind.i64.wrap (x17_2 - 1)) = ji49 := (i64_w _).trans hji49
                  by_cases c50 : 0 ≤ (ji49)
                  · rw [if_pos c50] at H
                    have c50b0 : decide (0 ≤ (ji49)) = true := decide_eq_true c50
                    clear c50
                    by_cases c51 : (ji49) < (x0_2.length : Int)
                    · rw [if_pos c51] at H
                      have c51b0 : decide ((ji49) < (x0_2.length : Int)) = true := decide_eq_true c51
                      clear c51
                      by_cases c52 : 0 ≤ x17_2
                      · rw [if_pos c52] at H
                        have c52b0 : decide (0 ≤ x17_2) = true := decide_eq_true c52
                        clear c52
                        by_cases c53 : x17_2 < (x0_2.length : Int)
                        · rw [if_pos c53] at H
                          have c53b0 : decide (x17_2 < (x0_2.length : Int)) = true := decide_eq_true c53
                          clear c53
                          obtain ⟨y195, hy195⟩ : ∃ y_ : List (S60), y_ = (x0_2.set (x17_2 : Int).toNat (⟨(rd_T60 x0_2 (ji49)).f0, (rd_T60 x0_2 (ji49)).f1, (rd_T60 x0_2 (ji49)).f2, (rd_T60 x0_2 (ji49)).f3⟩ : S60)) := ⟨_, rfl⟩
                          replace H : (impl_Sample_63.l3 k2 (y195.set ((ji49) : Int).toNat (⟨(rd_T60 x0_2 x17_2).f0, (rd_T60 x0_2 x17_2).f1, (rd_T60 x0_2 x17_2).f2, (rd_T60 x0_2 x17_2).f3⟩ : S60)) x14_1 ji49) = some r := by first | (rw [hy195]; with_reducible exact H) | (have H2_ := (Option.bind_some _ _).symm.trans H; rw [hy195]; with_reducible exact H2_) | (have H2_ := (Option.bind_some _ _).symm.trans H; with_reducible exact H2_) | with_reducible exact H | (rw [hy195]; exact H) | exact H
                          have Ny195 := Aside0.mk hy195
                          clear hy195
                          obtain ⟨y196, hy196⟩ : ∃ y_ : List (S60), y_ = (y195.set ((ji49) : Int).toNat (⟨(rd_T60 x0_2 x17_2).f0, (rd_T60 x0_2 x17_2).f1, (rd_T60 x0_2 x17_2).f2, (rd_T60 x0_2 x17_2).f3⟩ : S60)) := ⟨_, rfl⟩
                          replace H : (impl_Sample_63.l3 k2 y196 x14_1 ji49) = some r := by first | (rw [hy196]; with_reducible exact H) | (have H2_ := (Option.bind_some _ _).symm.trans H; rw [hy196]; with_reducible exact H2_) | (have H2_ := (Option.bind_some _ _).symm.trans H; with_reducible exact H2_) | with_reducible exact H | (rw [hy196]; exact H) | exact H
                          have Ny196 := Aside0.mk hy196
                          clear hy196
                          have H' := Aside0.mk H
                          clear H
                          try go_wp2
                          have n0_ := Aside0.mk (Kd.R_drew HO_0.out)
                          have n1_ := Aside0.mk (Kept.drew HK.out)
                          have n2_ := Aside0.mk (below_drew1 HB.out)
                          clear HO_0
                          clear HK
                          clear HB
                          have HO_0 := n0_
                          have HK := n1_
                          have HB := n2_
                          clear n0_ n1_ n2_
                          obtain ⟨Ao57, co57, eo57⟩ := Kd.R_slice HO_0.out
                          (first | subst eo57 | (injection eo57 with f1_ f2_ f3_; have f4_ := f1_.symm; have f5_ := f3_.symm; clear f1_ f2_ f3_; subst f4_; subst f5_))
                          have p193 : 0 ≤ ((ji49) : Int) := of_decide_eq_true (by first | (with_reducible assumption) | assumption)
                          have q193 : (ji49) < (x0_2.length : Int) := of_decide_eq_true (by first | (with_reducible assumption) | assumption)
                          obtain ⟨ad193, e193, hx193_0, hx193_1, hx193_2, hx193_3⟩ := at_T60 (Kd.R_reads' HO_0.out).2.2 (ji49) p193 q193
                          cases e193
                          replace p193 := eq_true p193
                          replace q193 := eq_true q193
                          have p194 : 0 ≤ (x17_2 : Int) := of_decide_eq_true (by first | (with_reducible assumption) | assumption)
                          have q194 : x17_2 < (x0_2.length : Int) := of_decide_eq_true (by first | (with_reducible assumption) | assumption)
                          obtain ⟨ad194, e194, hx194_0, hx194_1, hx194_2, hx194_3⟩ := at_T60 (Kd.R_reads' HO_0.out).2.2 x17_2 p194 q194
                          obtain rfl : ad193 = ad194 := (by injection e194)
                          replace p194 := eq_true p194
                          replace q194 := eq_true q194
                          have p54 : 0 ≤ (x17_2 : Int) := of_decide_eq_true (by first | (with_reducible assumption) | assumption)
                          have q54 : (x17_2 : Int) < ((x0_2.length : Int) : Int) := of_decide_eq_true (by first | (with_reducible assumption) | assumption)
                          obtain ⟨go54, co54, eo54, gb54, gl54, cl54, HG54⟩ := Kd.R_form HO_0.out (by omega)
                          (first | cases eo54 | (injection eo54 with ea_ en_ ec_; (first | subst ea_ | (injection ea_ with ea_; subst ea_)); subst ec_; clear en_))
                          have GB54 := Aside0.mk gb54
                          have GG54 := Aside0.mk HG54
                          clear gb54 gl54 HG54
                          have HMgo54 := Aside0.mk (show (P0_ go54 ∨ w.heap.size ≤ go54) from (HO_0.out.1 _ rfl))
                          (first | simp only [add_plain] at hx193_0 | skip)
                          (first | simp only [add_plain] at hx193_1 | skip)
                          (first | simp only [add_plain] at hx193_2 | skip)
                          (first | simp only [add_plain] at hx193_3 | skip)
                          (first | simp only [add_plain] at hx194_0 | skip)
                          (first | simp only [add_plain] at hx194_1 | skip)
                          (first | simp only [add_plain] at hx194_2 | skip)
                          (first | simp only [add_plain] at hx194_3 | skip)
                          obtain ⟨ce54, hcl54, hM54, hcc54, hfr54⟩ := Kd.R_elem HO_0.out z60 (x17_2 : Int) p54 q54
                          obtain rfl := k60_openM hM54
                          have hx54_0 : World.cell? _ ⟨go54, (x17_2 : Int).toNat * 4, none⟩ = some (.string ((rd_T60 x0_2 x17_2).f0)) := hcc54 0 _ rfl
                          have hx54_1 : World.cell? _ ⟨go54, (x17_2 : Int).toNat * 4 + 1, none⟩ = some (.string ((rd_T60 x0_2 x17_2).f1)) := hcc54 1 _ rfl
                          have hx54_2 : World.cell? _ ⟨go54, (x17_2 : Int).toNat * 4 + 2, none⟩ = some (.int .i64 ((rd_T60 x0_2 x17_2).f2)) := hcc54 2 _ rfl
                          have hx54_3 : World.cell? _ ⟨go54, (x17_2 : Int).toNat * 4 + 3, none⟩ = some (.int .i64 ((rd_T60 x0_2 x17_2).f3)) := hcc54 3 _ rfl
                          have hf54_0 : World.frozen? _ ⟨go54, (x17_2 : Int).toNat * 4, none⟩ = false := hfr54 0
                          have hf54_1 : World.frozen? _ ⟨go54, (x17_2 : Int).toNat * 4 + 1, none⟩ = false := hfr54 1
                          have hf54_2 : World.frozen? _ ⟨go54, (x17_2 : Int).toNat * 4 + 2, none⟩ = false := hfr54 2
                          have hf54_3 : World.frozen? _ ⟨go54, (x17_2 : Int).toNat * 4 + 3, none⟩ = false := hfr54 3
                          clear hcl54 hcc54 hfr54 hM54
                          replace p54 := eq_true p54
                          replace q54 := eq_true q54
                          obtain ⟨ce58, hcl58, hM58, hcc58, hfr58⟩ := Kd.R_elem HO_0.out z60 (x17_2 : Int) (of_decide_eq_true (by first | (with_reducible assumption) | assumption)) (by have h_ : (x17_2 : Int) < ((x0_2.length : Int) : Int) := of_decide_eq_true (by first | (with_reducible assumption) | assumption); first | exact h_ | (have e_ := (Kd.R_reads' HO_0.out).1; omega) | simpa using h_)
                          obtain rfl := k60_openM hM58
                          have HP58 := (Kd.R_seg HO_0.out (x17_2 : Int) (of_decide_eq_true (by first | (with_reducible assumption) | assumption)) (by have h_ : (x17_2 : Int) < ((x0_2.length : Int) : Int) := of_decide_eq_true (by first | (with_reducible assumption) | assumption); first | exact h_ | (have e_ := (Kd.R_reads' HO_0.out).1; omega) | simpa using h_) (seg := [.string ((rd_T60 x0_2 (ji49)).f0), .string ((rd_T60 x0_2 (ji49)).f1), .int .i64 ((rd_T60 x0_2 (ji49)).f2), .int .i64 ((rd_T60 x0_2 (ji49)).f3)]) (j := 0) hcl58 hcc58 (show 4 ≤ 4 from by decide) (x' := (⟨(rd_T60 x0_2 (ji49)).f0, (rd_T60 x0_2 (ji49)).f1, (rd_T60 x0_2 (ji49)).f2, (rd_T60 x0_2 (ji49)).f3⟩ : S60)) (k60_mkM _ _ _ (⟨(rd_T60 x0_2 (ji49)).f0, (rd_T60 x0_2 (ji49)).f1, (rd_T60 x0_2 (ji49)).f2, (rd_T60 x0_2 (ji49)).f3⟩ : S60) ) (fun _ hk => hk)).1
                          rw [← Ny195.out] at HP58
                          have HQ58 := Aside0.mk HP58
                          clear hcl58 hcc58 hfr58 hM58 HP58
                          have p55 : 0 ≤ ((ji49) : Int) := of_decide_eq_true (by first | (with_reducible assumption) | assumption)
                          have q55 : ((ji49) : Int) < ((x0_2.length : Int) : Int) := of_decide_eq_true (by first | (with_reducible assumption) | assumption)
                          obtain ⟨ce55, hcl55, hM55, hcc55, hfr55⟩ := Kd.R_elem HQ58.out z60 ((ji49) : Int) p55 q55
                          obtain rfl := k60_openM hM55
                          have hx55_0 : World.cell? _ ⟨go54, ((ji49) : Int).toNat * 4, none⟩ = some (.string ((rd_T60 y195 (ji49)).f0)) := hcc55 0 _ rfl
                          have hx55_1 : World.cell? _ ⟨go54, ((ji49) : Int).toNat * 4 + 1, none⟩ = some (.string ((rd_T60 y195 (ji49)).f1)) := hcc55 1 _ rfl
                          have hx55_2 : World.cell? _ ⟨go54, ((ji49) : Int).toNat * 4 + 2, none⟩ = some (.int .i64 ((rd_T60 y195 (ji49)).f2)) := hcc55 2 _ rfl
                          have hx55_3 : World.cell? _ ⟨go54, ((ji49) : Int).toNat * 4 + 3, none⟩ = some (.int .i64 ((rd_T60 y195 (ji49)).f3)) := hcc55 3 _ rfl
                          have hf55_0 : World.frozen? _ ⟨go54, ((ji49) : Int).toNat * 4, none⟩ = false := hfr55 0
                          have hf55_1 : World.frozen? _ ⟨go54, ((ji49) : Int).toNat * 4 + 1, none⟩ = false := hfr55 1
                          have hf55_2 : World.frozen? _ ⟨go54, ((ji49) : Int).toNat * 4 + 2, none⟩ = false := hfr55 2
                          have hf55_3 : World.frozen? _ ⟨go54, ((ji49) : Int).toNat * 4 + 3, none⟩ = false := hfr55 3
                          clear hcl55 hcc55 hfr55 hM55
                          replace p55 := eq_true p55
                          replace q55 := eq_true q55
                          obtain ⟨ce59, hcl59, hM59, hcc59, hfr59⟩ := Kd.R_elem HQ58.out z60 ((ji49) : Int) (of_decide_eq_true (by first | (with_reducible assumption) | assumption)) (by have h_ : ((ji49) : Int) < ((x0_2.length : Int) : Int) := of_decide_eq_true (by first | (with_reducible assumption) | assumption); first | exact h_ | (have e_ := (Kd.R_reads' HO_0.out).1; omega) | simpa using h_)
                          obtain rfl := k60_openM hM59
                          have HP59 := (Kd.R_seg HQ58.out ((ji49) : Int) (of_decide_eq_true (by first | (with_reducible assumption) | assumption)) (by have h_ : ((ji49) : Int) < ((x0_2.length : Int) : Int) := of_decide_eq_true (by first | (with_reducible assumption) | assumption); first | exact h_ | (have e_ := (Kd.R_reads' HO_0.out).1; omega) | simpa using h_) (seg := [.string ((rd_T60 x0_2 x17_2).f0), .string ((rd_T60 x0_2 x17_2).f1), .int .i64 ((rd_T60 x0_2 x17_2).f2), .int .i64 ((rd_T60 x0_2 x17_2).f3)]) (j := 0) hcl59 hcc59 (show 4 ≤ 4 from by decide) (x' := (⟨(rd_T60 x0_2 x17_2).f0, (rd_T60 x0_2 x17_2).f1, (rd_T60 x0_2 x17_2).f2, (rd_T60 x0_2 x17_2).f3⟩ : S60)) (k60_mkM _ _ _ (⟨(rd_T60 x0_2 x17_2).f0, (rd_T60 x0_2 x17_2).f1, (rd_T60 x0_2 x17_2).f2, (rd_T60 x0_2 x17_2).f3⟩ : S60) ) (fun _ hk => hk)).1
                          rw [← Ny196.out] at HP59
                          have HQ59 := Aside0.mk HP59
                          clear hcl59 hcc59 hfr59 hM59 HP59
                          refine start_ (n := 18) (S := fun w' => w'.cell? ⟨go54, ((ji49)).toNat * 4, none⟩ = some (.string ((rd_T60 x0_2 (ji49)).f0)) ∧ w'.cell? ⟨go54, ((ji49)).toNat * 4 + 1, none⟩ = some (.string ((rd_T60 x0_2 (ji49)).f1)) ∧ w'.cell? ⟨go54, ((ji49)).toNat * 4 + 2, none⟩ = some (.int .i64 ((rd_T60 x0_2 (ji49)).f2)) ∧ w'.cell? ⟨go54, ((ji49)).toNat * 4 + 3, none⟩ = some (.int .i64 ((rd_T60 x0_2 (ji49)).f3)) ∧ w'.cell? ⟨go54, ((x17_2).toNat * 4), none⟩ = some (.string ((rd_T60 x0_2 x17_2).f0)) ∧ w'.cell? ⟨go54, ((x17_2).toNat * 4) + 1, none⟩ = some (.string ((rd_T60 x0_2 x17_2).f1)) ∧ w'.cell? ⟨go54, ((x17_2).toNat * 4) + 2, none⟩ = some (.int .i64 ((rd_T60 x0_2 x17_2).f2)) ∧ w'.cell? ⟨go54, ((x17_2).toNat * 4) + 3, none⟩ = some (.int .i64 ((rd_T60 x0_2 x17_2).f3))) (ds := [15, 17]) #[false, false, false, false, false, false, false, false, false, false, false, false, false, false, false, false, false, false] (by kernel_rfl) rfl rfl ⟨hx193_0, hx193_1, hx193_2, hx193_3, hx194_0, hx194_1, hx194_2, hx194_3⟩ (fun hHeld => ?_); refine with_tabW impl_Sample_63.tab23 impl_Sample_63.bits23 (fun HT_ HW_ => ?_)
                          generalize wr.drew = w56 at HO_0 HK HB GG54 HQ58 HQ59 hf54_0 hf54_1 hf54_2 hf54_3 hf55_0 hf55_1 hf55_2 hf55_3 hx193_0 hx193_1 hx193_2 hx193_3 hx194_0 hx194_1 hx194_2 hx194_3 hx54_0 hx54_1 hx54_2 hx54_3 hx55_0 hx55_1 hx55_2 hx55_3 hHeld ⊢
                          refine pure_ (i := 0) (N := some 113) (v := ?_) (a' := ?_) #[true, false, false, false, false, false, false, false, false, false, false, false, false, false, false, false, false, false] rfl rfl (any_of HT_.out (by kernel_rfl)) (fun _ _ _ h => h) (Or.inl ⟨by rfl, ?_⟩) ?_ ?_
                          rotate_left
                          · intro w'
                            go_simp
                            with_reducible rfl
                          rotate_left
                          · simp only [Act.put, List.setIfInBounds_toArray, List.set_cons_zero, List.set_cons_succ, i64_w, i32_w]
                            rfl
                          refine pure_ (i := 1) (N := some 114) (v := ?_) (a' := ?_) #[true, true, false, false, false, false, false, false, false, false, false, false, false, false, false, false, false, false] rfl rfl (any_of HT_.out (by kernel_rfl)) (fun _ _ _ h => h) (Or.inl ⟨by rfl, ?_⟩) ?_ ?_
                          rotate_left
                          · intro w'
                            go_simp
                            with_reducible rfl
                          rotate_left
                          · simp only [Act.put, List.setIfInBounds_toArray, List.set_cons_zero, List.set_cons_succ, i64_w, i32_w]
                            rfl
                          refine pure_ (i := 2) (N := some 115) (v := ?_) (a' := ?_) #[true, true, true, false, false, false, false, false, false, false, false, false, false, false, false, false, false, false] rfl rfl (any_of HT_.out (by kernel_rfl)) (fun _ _ _ h => h) (Or.inl ⟨by rfl, ?_⟩) ?_ ?_
                          rotate_left
                          · intro w'
                            go_simp
                            with_reducible rfl
                          rotate_left
                          · simp only [Act.put, List.setIfInBounds_toArray, List.set_cons_zero, List.set_cons_succ, i64_w, i32_w]
                            rfl
                          refine pure_ (i := 3) (N := some 116) (v := ?_) (a' := ?_) #[true, true, true, true, false, false, false, false, false, false, false, false, false, false, false, false, false, false] rfl rfl (any_of HT_.out (by kernel_rfl)) (fun _ _ _ h => h) (Or.inl ⟨by rfl, ?_⟩) ?_ ?_
                          rotate_left
                          · intro w'
                            go_simp
                            with_reducible rfl
                          rotate_left
                          · simp only [Act.put, List.setIfInBounds_toArray, List.set_cons_zero, List.set_cons_succ, i64_w, i32_w]
                            rfl
                          refine pure_ (i := 4) (N := some 117) (v := ?_) (a' := ?_) #[true, true, true, true, true, false, false, false, false, false, false, false, false, false, false, false, false, false] rfl rfl (any_of HT_.out (by kernel_rfl)) (fun _ _ _ h => h) (Or.inl ⟨by rfl, ?_⟩) ?_ ?_
                          rotate_left
                          · intro w'
                            go_simp
                            with_reducible rfl
                          rotate_left
                          · simp only [Act.put, List.setIfInBounds_toArray, List.set_cons_zero, List.set_cons_succ, i64_w, i32_w]
                            rfl
                          refine pure_ (i := 5) (N := some 118) (v := ?_) (a' := ?_) #[true, true, true, true, true, true, false, false, false, false, false, false, false, false, false, false, false, false] rfl rfl (any_of HT_.out (by kernel_rfl)) (fun _ _ _ h => h) (Or.inl ⟨by rfl, ?_⟩) ?_ ?_
                          rotate_left
                          · intro w'
                            go_simp
                            with_reducible rfl
                          rotate_left
                          · simp only [Act.put, List.setIfInBounds_toArray, List.set_cons_zero, List.set_cons_succ, i64_w, i32_w]
                            rfl
                          refine pure_ (i := 6) (N := some 119) (v := ?_) (a' := ?_) #[true, true, true, true, true, true, true, false, false, false, false, false, false, false, false, false, false, false] rfl rfl (any_of HT_.out (by kernel_rfl)) (fun _ _ _ h => h) (Or.inl ⟨by rfl, ?_⟩) ?_ ?_
                          rotate_left
                          · intro w'
                            go_simp
                            with_reducible rfl
                          rotate_left
                          · simp only [Act.put, List.setIfInBounds_toArray, List.set_cons_zero, List.set_cons_succ, i64_w, i32_w]
                            rfl
                          refine pure_ (i := 7) (N := some 120) (v := ?_) (a' := ?_) #[true, true, true, true, true, true, true, true, false, false, false, false, false, false, false, false, false, false] rfl rfl (any_of HT_.out (by kernel_rfl)) (fun _ _ _ h => h) (Or.inl ⟨by rfl, ?_⟩) ?_ ?_
                          rotate_left
                          · intro w'
                            go_simp
                            with_reducible rfl
                          rotate_left
                          · simp only [Act.put, List.setIfInBounds_toArray, List.set_cons_zero, List.set_cons_succ, i64_w, i32_w]
                            rfl
                          refine pure_ (i := 8) (N := some 121) (v := ?_) (a' := ?_) #[true, true, true, true, true, true, true, true, true, false, false, false, false, false, false, false, false, false] rfl rfl (any_of HT_.out (by kernel_rfl)) (fun _ _ _ h => h) (Or.inl ⟨by rfl, ?_⟩) ?_ ?_
                          rotate_left
                          · intro w'
                            go_simp
                            with_reducible rfl
                          rotate_left
                          · simp only [Act.put, List.setIfInBounds_toArray, List.set_cons_zero, List.set_cons_succ, i64_w, i32_w]
                            rfl
                          refine pure_ (i := 10) (N := some 123) (v := ?_) (a' := ?_) #[true, true, true, true, true, true, true, true, true, false, true, false, false, false, false, false, false, false] rfl rfl (any_of HT_.out (by kernel_rfl)) (fun _ _ _ h => h) (Or.inl ⟨by rfl, ?_⟩) ?_ ?_
                          rotate_left
                          · intro w'
                            go_simp
                            with_reducible rfl
                          rotate_left
                          · simp only [Act.put, List.setIfInBounds_toArray, List.set_cons_zero, List.set_cons_succ, i64_w, i32_w]
                            rfl
                          refine pure_ (i := 11) (N := some 124) (v := ?_) (a' := ?_) #[true, true, true, true, true, true, true, true, true, false, true, true, false, false, false, false, false, false] rfl rfl (any_of HT_.out (by kernel_rfl)) (fun _ _ _ h => h) (Or.inl ⟨by rfl, ?_⟩) ?_ ?_
                          rotate_left
                          · intro w'
                            go_simp
                            with_reducible rfl
                          rotate_left
                          · simp only [Act.put, List.setIfInBounds_toArray, List.set_cons_zero, List.set_cons_succ, i64_w, i32_w]
                            rfl
                          refine pure_ (i := 12) (N := some 125) (v := ?_) (a' := ?_) #[true, true, true, true, true, true, true, true, true, false, true, true, true, false, false, false, false, false] rfl rfl (any_of HT_.out (by kernel_rfl)) (fun _ _ _ h => h) (Or.inl ⟨by rfl, ?_⟩) ?_ ?_
                          rotate_left
                          · intro w'
                            go_simp
                            with_reducible rfl
                          rotate_left
                          · simp only [Act.put, List.setIfInBounds_toArray, List.set_cons_zero, List.set_cons_succ, i64_w, i32_w]
                            rfl
                          refine take_ (i := 9) (N := some 122) (v := ?_) (a' := ?_) #[true, true, true, true, true, true, true, true, true, true, true, true, true, false, false, false, false, false] rfl rfl (take_ofW HT_.out HW_.out (by kernel_rfl)) (fun _ _ _ h => h) (Or.inl ⟨by rfl, ?_⟩) hHeld ?_ ?_
                          rotate_left
                          · rintro w' ⟨s0, s1, s2, s3, s4, s5, s6, s7⟩
                            go_simp
                            with_reducible rfl
                          rotate_left
                          · simp only [Act.put, List.setIfInBounds_toArray, List.set_cons_zero, List.set_cons_succ, i64_w, i32_w]
                            rfl
                          refine take_ (i := 13) (N := some 126) (v := ?_) (a' := ?_) #[true, true, true, true, true, true, true, true, true, true, true, true, true, true, false, false, false, false] rfl rfl (take_ofW HT_.out HW_.out (by kernel_rfl)) (fun _ _ _ h => h) (Or.inl ⟨by rfl, ?_⟩) hHeld ?_ ?_
                          rotate_left
                          · rintro w' ⟨s0, s1, s2, s3, s4, s5, s6, s7⟩
                            go_simp
                            with_reducible rfl
                          rotate_left
                          · simp only [Act.put, List.setIfInBounds_toArray, List.set_cons_zero, List.set_cons_succ, i64_w, i32_w]
                            rfl
                          refine pure_ (i := 14) (N := some 127) (v := ?_) (a' := ?_) #[true, true, true, true, true, true, true, true, true, true, true, true, true, true, true, false, false, false] rfl rfl (any_of HT_.out (by kernel_rfl)) (fun _ _ _ h => h) (Or.inl ⟨by rfl, ?_⟩) ?_ ?_
                          rotate_left
                          · intro w'
                            go_simp
                            with_reducible rfl
                          rotate_left
                          · simp only [Act.put, List.setIfInBounds_toArray, List.set_cons_zero, List.set_cons_succ, i64_w, i32_w]
                            rfl
                          refine last_ (i := 15) (N := none) #[true, true, true, true, true, true, true, true, true, true, true, true, true, true, true, true, false, false] rfl rfl (one_of HT_.out (by kernel_rfl)) (by decide) (fun K hK => ?_)
                          refine skip_ (w1 := ?_) (by rfl) rfl ?_ ?_
                          rotate_left
                          · go_simp
                            rfl
                          refine hK.out _ _ ?_
                          clear hK K
                          refine pure_ (i := 16) (N := some 128) (v := ?_) (a' := ?_) #[true, true, true, true, true, true, true, true, true, true, true, true, true, true, true, true, true, false] rfl rfl (any_of HT_.out (by kernel_rfl)) (fun _ _ _ h => h) (Or.inl ⟨by rfl, ?_⟩) ?_ ?_
                          rotate_left
                          · intro w'
                            go_simp
                            with_reducible rfl
                          rotate_left
                          · simp only [Act.put, List.setIfInBounds_toArray, List.set_cons_zero, List.set_cons_succ, i64_w, i32_w]
                            rfl
                          refine last_ (i := 17) (N := none) #[true, true, true, true, true, true, true, true, true, true, true, true, true, true, true, true, true, true] rfl rfl (one_of HT_.out (by kernel_rfl)) (by decide) (fun K hK => ?_)
                          refine skip_ (w1 := ?_) (by rfl) rfl ?_ ?_
                          rotate_left
                          · obtain ⟨z00, hz00⟩ := cell?_setCell_some (p := ⟨go54, (x17_2 : Int).toNat * 4, none⟩) (x := .string ((rd_T60 x0_2 (ji49)).f0)) hx193_0
                            obtain ⟨z01, hz01⟩ := cell?_setCell_some (p := ⟨go54, (x17_2 : Int).toNat * 4 + 1, none⟩) (x := .string ((rd_T60 x0_2 (ji49)).f1)) hz00
                            obtain ⟨z02, hz02⟩ := cell?_setCell_some (p := ⟨go54, (x17_2 : Int).toNat * 4 + 2, none⟩) (x := .int .i64 ((rd_T60 x0_2 (ji49)).f2)) hz01
                            obtain ⟨z03, hz03⟩ := cell?_setCell_some (p := ⟨go54, (x17_2 : Int).toNat * 4 + 3, none⟩) (x := .int .i64 ((rd_T60 x0_2 (ji49)).f3)) hz02
                            obtain ⟨z10, hz10⟩ := cell?_setCell_some (p := ⟨go54, (x17_2 : Int).toNat * 4, none⟩) (x := .string ((rd_T60 x0_2 (ji49)).f0)) hx193_1
                            obtain ⟨z11, hz11⟩ := cell?_setCell_some (p := ⟨go54, (x17_2 : Int).toNat * 4 + 1, none⟩) (x := .string ((rd_T60 x0_2 (ji49)).f1)) hz10
                            obtain ⟨z12, hz12⟩ := cell?_setCell_some (p := ⟨go54, (x17_2 : Int).toNat * 4 + 2, none⟩) (x := .int .i64 ((rd_T60 x0_2 (ji49)).f2)) hz11
                            obtain ⟨z13, hz13⟩ := cell?_setCell_some (p := ⟨go54, (x17_2 : Int).toNat * 4 + 3, none⟩) (x := .int .i64 ((rd_T60 x0_2 (ji49)).f3)) hz12
                            obtain ⟨z20, hz20⟩ := cell?_setCell_some (p := ⟨go54, (x17_2 : Int).toNat * 4, none⟩) (x := .string ((rd_T60 x0_2 (ji49)).f0)) hx193_2
                            obtain ⟨z21, hz21⟩ := cell?_setCell_some (p := ⟨go54, (x17_2 : Int).toNat * 4 + 1, none⟩) (x := .string ((rd_T60 x0_2 (ji49)).f1)) hz20
                            obtain ⟨z22, hz22⟩ := cell?_setCell_some (p := ⟨go54, (x17_2 : Int).toNat * 4 + 2, none⟩) (x := .int .i64 ((rd_T60 x0_2 (ji49)).f2)) hz21
                            obtain ⟨z23, hz23⟩ := cell?_setCell_some (p := ⟨go54, (x17_2 : Int).toNat * 4 + 3, none⟩) (x := .int .i64 ((rd_T60 x0_2 (ji49)).f3)) hz22
                            obtain ⟨z30, hz30⟩ := cell?_setCell_some (p := ⟨go54, (x17_2 : Int).toNat * 4, none⟩) (x := .string ((rd_T60 x0_2 (ji49)).f0)) hx193_3
                            obtain ⟨z31, hz31⟩ := cell?_setCell_some (p := ⟨go54, (x17_2 : Int).toNat * 4 + 1, none⟩) (x := .string ((rd_T60 x0_2 (ji49)).f1)) hz30
                            obtain ⟨z32, hz32⟩ := cell?_setCell_some (p := ⟨go54, (x17_2 : Int).toNat * 4 + 2, none⟩) (x := .int .i64 ((rd_T60 x0_2 (ji49)).f2)) hz31
                            obtain ⟨z33, hz33⟩ := cell?_setCell_some (p := ⟨go54, (x17_2 : Int).toNat * 4 + 3, none⟩) (x := .int .i64 ((rd_T60 x0_2 (ji49)).f3)) hz32
                            obtain ⟨_, _, _, _, hfr_⟩ := Kd.R_elem HO_0.out z60 ((ji49) : Int) (of_eq_true p55) (of_eq_true q55)
                            have hw_0 : World.frozen? w56 ⟨go54, ((ji49) : Int).toNat * 4, none⟩ = false := hfr_ 0
                            have hw_1 : World.frozen? w56 ⟨go54, ((ji49) : Int).toNat * 4 + 1, none⟩ = false := hfr_ 1
                            have hw_2 : World.frozen? w56 ⟨go54, ((ji49) : Int).toNat * 4 + 2, none⟩ = false := hfr_ 2
                            have hw_3 : World.frozen? w56 ⟨go54, ((ji49) : Int).toNat * 4 + 3, none⟩ = false := hfr_ 3
                            go_simp
                            rfl
                          refine hK.out _ _ ?_
                          clear hK K
                          refine done_ (done_of HT_.out (by kernel_rfl)) ?_
                          try go_wp2
                          go_roundg k2
                          case measure => have := HK1.out; have := HK2.out; omega
                          case rel => exact ⟨(y196), (ji49), (by first | rfl | (simp; done) | (simp only [← hji49] <;> (first | rfl | simp)) | (simp [*]; done)), H', ⟨by have := HK1.out; have := HK2.out; omega⟩, ⟨by (with_reducible repeat (first | apply Kd.R_alloc | apply Kd.R_drewN | apply Kd.R_drew)); exact HQ59.out⟩, ⟨by repeat (first | (with_reducible first | exact HK.out | apply Kept.alloc | apply Kept.drewN | apply Kept.drew | refine Kept.setCell ?_ HMgo54.out _ | refine Kept.setCell ?_ HMgo54.out _ | refine Kept.setCell ?_ HMgo54.out _ | refine Kept.setCell ?_ HMgo54.out _ | refine Kept.setCell ?_ HMgo54.out _ | refine Kept.setCell ?_ HMgo54.out _ | refine Kept.setCell ?_ HMgo54.out _ | refine Kept.setCell ?_ HMgo54.out _) | exact HK.out)⟩, ⟨by repeat (first | (with_reducible first | exact HB.out | apply below_alloc | apply pw_below_drewN | apply below_drew1 | refine below_set ?_ GB54.out | refine below_set ?_ GB54.out | refine below_set ?_ GB54.out | refine below_set ?_ GB54.out | refine below_set ?_ GB54.out | refine below_set ?_ GB54.out | refine below_set ?_ GB54.out | refine below_set ?_ GB54.out) | exact HB.out)⟩⟩
                        · rw [if_neg c53] at H
                          exact absurd H (by simp)
                      · rw [if_neg c52] at H
                        exact absurd H (by simp)
                    · rw [if_neg c51] at H
                      exact absurd H (by simp)
                  · rw [if_neg c50] at H
                    exact absurd H (by simp)
                · rw [if_neg c48] at H
                  have c48b0 : decide (x14_1 < x17_2) = false := decide_eq_false c48
                  clear c48
                  obtain rfl := Option.some.inj H
                  go_wp2
                  first | go_end0 | ((try simp only [Exit.inBlock, Exit.then]); refine bodyPost_ret (results_none rfl _ _ _) rfl ?_)
                  exact ⟨by first | rfl | (simp [errW_none, errW_some] <;> rfl) | (simp [*, errW_none, errW_some] <;> rfl), by (with_reducible repeat (first | apply Kd.R_alloc | apply Kd.R_drewN | apply Kd.R_drew)); exact HO_0.out, by repeat (first | (with_reducible first | exact HB.out | apply below_alloc | apply pw_below_drewN | apply below_drew1) | exact HB.out), by repeat (first | (with_reducible first | exact HK.out | apply Kept.alloc | apply Kept.drewN | apply Kept.drew) | exact HK.out)⟩

end Go.Proofs.Ytebmlghhgccloaa.QS
