-- Written by a program of this session (gprint.py), over the kit's print: not trusted: Lean checks it.
import Derived.Test.YtcbjfnkeieeecaaGLBestTour0
import Derived.Test.YtcbjfnkeieeecaaGLBestTour3
namespace Go.Proofs.Ytcbjfnkeieeecaa.GLBestTour
open Go.RowKit Go.Proofs.YtcbjfnkeieeecaaW.PrintWords Go.Proofs.YtcbjfnkeieeecaaW.PrintLast Go.Proofs.YtcbjfnkeieeecaaW.PrintMore Go.Proofs.YtcbjfnkeieeecaaW.PrintOwn
attribute [local go_sem] max2_int min2_int max_two min_two max_three min_three max_four min_four   -- for this text's walks alone
set_option linter.unusedVariables false
set_option linter.unusedSimpArgs false

/-! ### impl_tourCost: function 45 -/
def impl_tourCost.l0 : Nat → List (S26) → List Int → Int → List Int → Int → Int → Option (Int)
  | 0, _, _, _, _, _, _ => none
  | k + 1, x0, x1, x5, x8, x9, x10 => if x10 < x9 then (if 0 ≤ x10 then (if x10 < (x8.length : Int) then (if 0 ≤ (rd x8 x10) then (if (rd x8 x10) < (x0.length : Int) then (if (x1.length : Int) = 0 then (none) else (if 0 ≤ (Int.tmod (wrap64 (x10 + 1)) (x1.length : Int)) then (if (Int.tmod (wrap64 (x10 + 1)) (x1.length : Int)) < (x1.length : Int) then (if 0 ≤ (rd x1 (Int.tmod (wrap64 (x10 + 1)) (x1.length : Int))) then (if (rd x1 (Int.tmod (wrap64 (x10 + 1)) (x1.length : Int))) < (x0.length : Int) then ((impl_way.f ((rd_T26 x0 (rd x8 x10)).f0) ((rd_T26 x0 (rd x8 x10)).f1) ((rd_T26 x0 (rd x1 (Int.tmod (wrap64 (x10 + 1)) (x1.length : Int)))).f0) ((rd_T26 x0 (rd x1 (Int.tmod (wrap64 (x10 + 1)) (x1.length : Int)))).f1)).bind fun t176 => (impl_tourCost.l0 k x0 x1 (wrap64 (x5 + t176)) x8 x9 (wrap64 (x10 + 1)))) else (none)) else (none)) else (none)) else (none))) else (none)) else (none)) else (none)) else (none)) else (some x5)
def impl_tourCost.f (k : Nat) (l0 : List (S26)) (l1 : List Int) : Option (Int) := impl_tourCost.l0 k l0 l1 0 l1 (l1.length : Int) 0
theorem impl_tourCost.mono_l : ∀ k, (∀ y0 y1 y2 y3 y4 y5, LeO (impl_tourCost.l0 k y0 y1 y2 y3 y4 y5) (impl_tourCost.l0 (k + 1) y0 y1 y2 y3 y4 y5))
  | 0 => fun _ _ _ _ _ _ r h => by simp [impl_tourCost.l0] at h
  | k + 1 => by
    have ih0 := impl_tourCost.mono_l k
    · intro y0 y1 y2 y3 y4 y5
      unfold impl_tourCost.l0
      repeat' first
      | (with_reducible exact ih0 _ _ _ _ _ _)
      | (with_reducible exact LeO.refl _)
      | (with_reducible exact LeO.none _)
      | (with_reducible refine LeO.ite ?_ ?_)
      | (with_reducible refine LeO.bind ?_ (fun _ => ?_))
      | exact ih0 _ _ _ _ _ _
      | exact LeO.none _
      | refine LeO.ite ?_ ?_
      | refine LeO.bind ?_ (fun _ => ?_)
theorem impl_tourCost.mono : ∀ a0 a1 k, LeO (impl_tourCost.f k a0 a1) (impl_tourCost.f (k + 1) a0 a1) := by
  intro a0 a1 k
  have ih0 := impl_tourCost.mono_l k
  unfold impl_tourCost.f
  repeat' first
      | (with_reducible exact ih0 _ _ _ _ _ _)
      | (with_reducible exact LeO.refl _)
      | (with_reducible exact LeO.none _)
      | (with_reducible refine LeO.ite ?_ ?_)
      | (with_reducible refine LeO.bind ?_ (fun _ => ?_))
      | exact ih0 _ _ _ _ _ _
      | exact LeO.none _
      | refine LeO.ite ?_ ?_
      | refine LeO.bind ?_ (fun _ => ?_)
def impl_tourCost.T5 : Bool × List (List Nat × List Nat) := (true, [([], []), ([], []), ([], []), ([1, 2], [1, 2]), ([3], [3]), ([], []), ([], []), ([], []), ([7], [7]), ([], []), ([9], [9]), ([8, 10], [8, 10]), ([6, 11], [6, 11]), ([12], [12]), ([5, 13], [5, 13]), ([14], [14]), ([4, 15], [4, 15]), ([0, 16], [0, 16]), ([17, 16, 0, 1, 2, 3, 4, 5, 6, 7, 8, 9, 10, 11, 12, 13, 14, 15, 16, 17], [0, 17])])
def impl_tourCost.B5 : List Nat := [0, 0, 0, 6, 14, 0, 0, 0, 128, 0, 512, 1920, 4032, 8128, 16352, 32736, 65534, 131071, 262143]
theorem impl_tourCost.tab5 : rtab .any (opsOf Try.f45 5) = impl_tourCost.T5 := by kernel_rfl
theorem impl_tourCost.bits5 : waitsOk impl_tourCost.T5.2 impl_tourCost.B5 = true := by kernel_rfl
set_option maxHeartbeats 8000000 in
set_option maxRecDepth 100000 in
theorem impl_tourCost.calls (k : Nat) (A0 : Option Addr) (c0 : Nat) (l0 : List (S26)) (A1 : Option Addr) (c1 : Nat) (l1 : List Int) (r : Int) (w : World) (hr0 : Kd.C k26 w A0 l0.length l0) (hc0 : l0.length ≤ c0) (hr1 : Kd.C (Kd.int .i64) w A1 l1.length l1) (hc1 : l1.length ≤ c1) (h : impl_tourCost.f k l0 l1 = some r) :
    Calls Try.prog 45 #[.slice A0 l0.length c0, .slice A1 l1.length c1] w fun e w' => e = .returned (.int .i64 r) ∧ Below w.heap.size w w' := by
  have hu26 := Try.underlying26
  have HR0 := Aside0.mk hr0
  have HC0 := Aside0.mk hc0
  clear hr0 hc0
  have HR1 := Aside0.mk hr1
  have HC1 := Aside0.mk hc1
  clear hr1 hc1
  have HB := Aside0.mk (Below.refl w.heap.size w)
  have H : (impl_tourCost.l0 k l0 l1 0 l1 (l1.length : Int) 0) = some r := h
  clear h
  have H' := Aside0.mk H
  clear H
  go_enter Try.func45, Try.ntmps45
  go_wp2
  go_loopg [5, 10] k (fun kq v5 v10 w' => ∃ (x5_1 : Int) (x10_1 : Int), v5 = .int .i64 x5_1 ∧ v10 = .int .i64 x10_1 ∧ Aside0 (impl_tourCost.l0 kq l0 l1 x5_1 l1 (l1.length : Int) x10_1 = some r) ∧ Aside0 (kq ≤ k) ∧ Aside0 (Below w.heap.size w w'))
  case atStart => exact ⟨(0), (0), (by first | rfl | (simp; done) | (simp [*]; done)), (by first | rfl | (simp; done) | (simp [*]; done)), H', ⟨Nat.le_refl _⟩, ⟨by repeat (first | (with_reducible first | exact HB.out | apply below_alloc | apply pw_below_drewN | apply below_drew1) | exact HB.out)⟩⟩
  case round =>
    clear H'
    try clear c1
    try clear p2
    obtain ⟨x5_1, x10_1, rfl, rfl, HA, HK1, HB⟩ := hrel
    cases gk with
    | zero => exact absurd HA.out (by simp [impl_tourCost.l0])
    | succ k1 =>
      have H := HA.out
      clear HA
      simp only [impl_tourCost.l0] at H
      by_cases c3 : x10_1 < (l1.length : Int)
      · rw [if_pos c3] at H
        have c3b0 : decide (x10_1 < (l1.length : Int)) = true := decide_eq_true c3
        clear c3
        by_cases c4 : 0 ≤ x10_1
        · rw [if_pos c4] at H
          have c4b0 : decide (0 ≤ x10_1) = true := decide_eq_true c4
          clear c4
          by_cases c5 : x10_1 < (l1.length : Int)
          · rw [if_pos c5] at H
            have c5b0 : decide (x10_1 < (l1.length : Int)) = true := decide_eq_true c5
            clear c5
            by_cases c6 : 0 ≤ (rd l1 x10_1)
            · rw [if_pos c6] at H
              have c6b0 : decide (0 ≤ (rd l1 x10_1)) = true := decide_eq_true c6
              clear c6
              by_cases c7 : (rd l1 x10_1) < (l0.length : Int)
              · rw [if_pos c7] at H
                have c7b0 : decide ((rd l1 x10_1) < (l0.length : Int)) = true := decide_eq_true c7
                clear c7
                by_cases c8 : (l1.length : Int) = 0
                · rw [if_pos c8] at H
                  exact absurd H (by simp)
                · rw [if_neg c8] at H
                  have c8b0 : ((l1.length : Int) == 0) = false := beq_eq_false_iff_ne.mpr c8
                  have c8b1 : ((l1.length : Int) != 0) = true := bne_iff_ne.mpr c8
                  have c8b2 : ¬ (l1 = []) := fun h_ => c8 (by rw [h_]; rfl)
                  obtain ⟨ji9, hji9⟩ : ∃ j_ : Int, (Int.tmod (wrap64 (x10_1 + 1)) (l1.length : Int)) = j_ := ⟨_, rfl⟩
                  replace H : (if 0 ≤ (ji9) then (if (ji9) < (l1.length : Int) then (if 0 ≤ (rd l1 (ji9)) then (if (rd l1 (ji9)) < (l0.length : Int) then ((impl_way.f ((rd_T26 l0 (rd l1 x10_1)).f0) ((rd_T26 l0 (rd l1 x10_1)).f1) ((rd_T26 l0 (rd l1 (ji9))).f0) ((rd_T26 l0 (rd l1 (ji9))).f1)).bind fun t176 => (impl_tourCost.l0 k1 l0 l1 (wrap64 (x5_1 + t176)) l1 (l1.length : Int) (wrap64 (x10_1 + 1)))) else (none)) else (none)) else (none)) else (none)) = some r := by first | (rw [hji9] at H; exact H) | (simp only [hji9] at H ⊢; exact H)
                  by_cases c10 : 0 ≤ (ji9)
                  · rw [if_pos c10] at H
                    have c10b0 : decide (0 ≤ (ji9)) = true := decide_eq_true c10
                    clear c10
                    by_cases c11 : (ji9) < (l1.length : Int)
                    · rw [if_pos c11] at H
                      have c11b0 : decide ((ji9) < (l1.length : Int)) = true := decide_eq_true c11
                      clear c11
                      by_cases c12 : 0 ≤ (rd l1 (ji9))
                      · rw [if_pos c12] at H
                        have c12b0 : decide (0 ≤ (rd l1 (ji9))) = true := decide_eq_true c12
                        clear c12
                        by_cases c13 : (rd l1 (ji9)) < (l0.length : Int)
                        · rw [if_pos c13] at H
                          have c13b0 : decide ((rd l1 (ji9)) < (l0.length : Int)) = true := decide_eq_true c13
                          clear c13
                          replace H := Option.bind_eq_some_iff.mp H
                          obtain ⟨t176, A140, H⟩ := H
                          replace H : (impl_tourCost.l0 k1 l0 l1 (wrap64 (x5_1 + t176)) l1 (l1.length : Int) (wrap64 (x10_1 + 1))) = some r := H
                          have A14 := Aside0.mk A140
                          clear A140
                          have H' := Aside0.mk H
                          clear H
                          have p172 : 0 ≤ (x10_1 : Int) := of_decide_eq_true (by first | (with_reducible assumption) | assumption)
                          have q172 : x10_1 < (l1.length : Int) := of_decide_eq_true (by first | (with_reducible assumption) | assumption)
                          obtain ⟨ad172, e172, hx172_0⟩ := Kd.at_int HR1.out x10_1 p172 q172
                          cases e172
                          replace hx172_0 := (HB.out.cell (World.block_lt_of_cell? w _ hx172_0)).trans hx172_0
                          replace p172 := eq_true p172
                          replace q172 := eq_true q172
                          try go_wp2
                          have n0_ := Aside0.mk (below_drew1 HB.out)
                          clear HB
                          have HB := n0_
                          clear n0_
                          have p173 : 0 ≤ ((rd l1 x10_1) : Int) := of_decide_eq_true (by first | (with_reducible assumption) | assumption)
                          have q173 : (rd l1 x10_1) < (l0.length : Int) := of_decide_eq_true (by first | (with_reducible assumption) | assumption)
                          obtain ⟨ad173, e173, hx173_0, hx173_1⟩ := at_T26 HR0.out (rd l1 x10_1) p173 q173
                          have hw173_1 := hx173_1
                          have hw173_0 := hx173_0
                          cases e173
                          replace hx173_0 := (HB.out.cell (World.block_lt_of_cell? w _ hx173_0)).trans hx173_0
                          replace hx173_1 := (HB.out.cell (World.block_lt_of_cell? w _ hx173_1)).trans hx173_1
                          replace p173 := eq_true p173
                          replace q173 := eq_true q173
                          have p174 : 0 ≤ ((ji9) : Int) := of_decide_eq_true (by first | (with_reducible assumption) | assumption)
                          have q174 : (ji9) < (l1.length : Int) := of_decide_eq_true (by first | (with_reducible assumption) | assumption)
                          obtain ⟨ad174, e174, hx174_0⟩ := Kd.at_int HR1.out (ji9) p174 q174
                          have hw174_0 := hx174_0
                          obtain rfl : ad172 = ad174 := (by injection e174)
                          replace hx174_0 := (HB.out.cell (World.block_lt_of_cell? w _ hx174_0)).trans hx174_0
                          replace p174 := eq_true p174
                          replace q174 := eq_true q174
                          have p175 : 0 ≤ ((rd l1 (ji9)) : Int) := of_decide_eq_true (by first | (with_reducible assumption) | assumption)
                          have q175 : (rd l1 (ji9)) < (l0.length : Int) := of_decide_eq_true (by first | (with_reducible assumption) | assumption)
                          obtain ⟨ad175, e175, hx175_0, hx175_1⟩ := at_T26 HR0.out (rd l1 (ji9)) p175 q175
                          have hw175_1 := hx175_1
                          have hw175_0 := hx175_0
                          obtain rfl : ad173 = ad175 := (by injection e175)
                          replace hx175_0 := (HB.out.cell (World.block_lt_of_cell? w _ hx175_0)).trans hx175_0
                          replace hx175_1 := (HB.out.cell (World.block_lt_of_cell? w _ hx175_1)).trans hx175_1
                          replace p175 := eq_true p175
                          replace q175 := eq_true q175
                          refine start_ (n := 19) (S := fun w' => w'.cell? (ad173.add (((rd l1 x10_1)).toNat * 2)) = some (.int .i64 ((rd_T26 l0 (rd l1 x10_1)).f0)) ∧ w'.cell? ⟨(ad173.add (((rd l1 x10_1)).toNat * 2)).block, (ad173.add (((rd l1 x10_1)).toNat * 2)).off + 1, none⟩ = some (.int .i64 ((rd_T26 l0 (rd l1 x10_1)).f1)) ∧ w'.cell? (ad172.add ((ji9)).toNat) = some (.int .i64 (rd l1 (ji9))) ∧ w'.cell? (ad173.add (((rd l1 (ji9))).toNat * 2)) = some (.int .i64 ((rd_T26 l0 (rd l1 (ji9))).f0)) ∧ w'.cell? ⟨(ad173.add (((rd l1 (ji9))).toNat * 2)).block, (ad173.add (((rd l1 (ji9))).toNat * 2)).off + 1, none⟩ = some (.int .i64 ((rd_T26 l0 (rd l1 (ji9))).f1))) (ds := []) #[false, false, false, false, false, false, false, false, false, false, false, false, false, false, false, false, false, false, false] (by kernel_rfl) rfl rfl ⟨((HB.out.cell (World.block_lt_of_cell? w _ hw173_0)).trans hw173_0), ((HB.out.cell (World.block_lt_of_cell? w _ hw173_1)).trans hw173_1), ((HB.out.cell (World.block_lt_of_cell? w _ hw174_0)).trans hw174_0), ((HB.out.cell (World.block_lt_of_cell? w _ hw175_0)).trans hw175_0), ((HB.out.cell (World.block_lt_of_cell? w _ hw175_1)).trans hw175_1)⟩ (fun hHeld => ?_); refine with_tabW impl_tourCost.tab5 impl_tourCost.bits5 (fun HT_ HW_ => ?_)
                          generalize wr.drew = w15 at HB hx173_0 hx173_1 hx174_0 hx175_0 hx175_1 hHeld ⊢
                          refine pure_ (i := 0) (N := some 15) (v := ?_) (a' := ?_) #[true, false, false, false, false, false, false, false, false, false, false, false, false, false, false, false, false, false, false] rfl rfl (any_of HT_.out (by kernel_rfl)) (fun _ _ _ h => h) (Or.inl ⟨by rfl, ?_⟩) ?_ ?_
                          rotate_left
                          · intro w'
                            go_simp
                            with_reducible rfl
                          rotate_left
                          · simp only [Act.put, List.setIfInBounds_toArray, List.set_cons_zero, List.set_cons_succ, i64_w, i32_w]
                            rfl
                          refine pure_ (i := 1) (N := some 16) (v := ?_) (a' := ?_) #[true, true, false, false, false, false, false, false, false, false, false, false, false, false, false, false, false, false, false] rfl rfl (any_of HT_.out (by kernel_rfl)) (fun _ _ _ h => h) (Or.inl ⟨by rfl, ?_⟩) ?_ ?_
                          rotate_left
                          · intro w'
                            go_simp
                            with_reducible rfl
                          rotate_left
                          · simp only [Act.put, List.setIfInBounds_toArray, List.set_cons_zero, List.set_cons_succ, i64_w, i32_w]
                            rfl
                          refine pure_ (i := 2) (N := some 17) (v := ?_) (a' := ?_) #[true, true, true, false, false, false, false, false, false, false, false, false, false, false, false, false, false, false, false] rfl rfl (any_of HT_.out (by kernel_rfl)) (fun _ _ _ h => h) (Or.inl ⟨by rfl, ?_⟩) ?_ ?_
                          rotate_left
                          · intro w'
                            go_simp
                            with_reducible rfl
                          rotate_left
                          · simp only [Act.put, List.setIfInBounds_toArray, List.set_cons_zero, List.set_cons_succ, i64_w, i32_w]
                            rfl
                          refine pure_ (i := 3) (N := some 18) (v := ?_) (a' := ?_) #[true, true, true, true, false, false, false, false, false, false, false, false, false, false, false, false, false, false, false] rfl rfl (any_of HT_.out (by kernel_rfl)) (fun _ _ _ h => h) (Or.inl ⟨by rfl, ?_⟩) ?_ ?_
                          rotate_left
                          · intro w'
                            go_simp
                            with_reducible rfl
                          rotate_left
                          · simp only [Act.put, List.setIfInBounds_toArray, List.set_cons_zero, List.set_cons_succ, i64_w, i32_w]
                            rfl
                          refine pure_ (i := 5) (N := some 20) (v := ?_) (a' := ?_) #[true, true, true, true, false, true, false, false, false, false, false, false, false, false, false, false, false, false, false] rfl rfl (any_of HT_.out (by kernel_rfl)) (fun _ _ _ h => h) (Or.inl ⟨by rfl, ?_⟩) ?_ ?_
                          rotate_left
                          · intro w'
                            go_simp
                            with_reducible rfl
                          rotate_left
                          · simp only [Act.put, List.setIfInBounds_toArray, List.set_cons_zero, List.set_cons_succ, i64_w, i32_w]
                            rfl
                          refine pure_ (i := 6) (N := some 21) (v := ?_) (a' := ?_) #[true, true, true, true, false, true, true, false, false, false, false, false, false, false, false, false, false, false, false] rfl rfl (any_of HT_.out (by kernel_rfl)) (fun _ _ _ h => h) (Or.inl ⟨by rfl, ?_⟩) ?_ ?_
                          rotate_left
                          · intro w'
                            go_simp
                            with_reducible rfl
                          rotate_left
                          · simp only [Act.put, List.setIfInBounds_toArray, List.set_cons_zero, List.set_cons_succ, i64_w, i32_w]
                            rfl
                          refine pure_ (i := 7) (N := some 22) (v := ?_) (a' := ?_) #[true, true, true, true, false, true, true, true, false, false, false, false, false, false, false, false, false, false, false] rfl rfl (any_of HT_.out (by kernel_rfl)) (fun _ _ _ h => h) (Or.inl ⟨by rfl, ?_⟩) ?_ ?_
                          rotate_left
                          · intro w'
                            go_simp
                            with_reducible rfl
                          rotate_left
                          · simp only [Act.put, List.setIfInBounds_toArray, List.set_cons_zero, List.set_cons_succ, i64_w, i32_w]
                            rfl
                          refine pure_ (i := 8) (N := some 23) (v := ?_) (a' := ?_) #[true, true, true, true, false, true, true, true, true, false, false, false, false, false, false, false, false, false, false] rfl rfl (any_of HT_.out (by kernel_rfl)) (fun _ _ _ h => h) (Or.inl ⟨by rfl, ?_⟩) ?_ ?_
                          rotate_left
                          · intro w'
                            go_simp
                            with_reducible rfl
                          rotate_left
                          · simp only [Act.put, List.setIfInBounds_toArray, List.set_cons_zero, List.set_cons_succ, i64_w, i32_w]
                            rfl
                          refine pure_ (i := 9) (N := some 24) (v := ?_) (a' := ?_) #[true, true, true, true, false, true, true, true, true, true, false, false, false, false, false, false, false, false, false] rfl rfl (any_of HT_.out (by kernel_rfl)) (fun _ _ _ h => h) (Or.inl ⟨by rfl, ?_⟩) ?_ ?_
                          rotate_left
                          · intro w'
                            go_simp
                            with_reducible rfl
                          rotate_left
                          · simp only [Act.put, List.setIfInBounds_toArray, List.set_cons_zero, List.set_cons_succ, i64_w, i32_w]
                            rfl
                          refine pure_ (i := 10) (N := some 25) (v := ?_) (a' := ?_) #[true, true, true, true, false, true, true, true, true, true, true, false, false, false, false, false, false, false, false] rfl rfl (any_of HT_.out (by kernel_rfl)) (fun _ _ _ h => h) (Or.inl ⟨by rfl, ?_⟩) ?_ ?_
                          rotate_left
                          · intro w'
                            go_simp
                            with_reducible rfl
                          rotate_left
                          · simp only [Act.put, List.setIfInBounds_toArray, List.set_cons_zero, List.set_cons_succ, i64_w, i32_w]
                            rfl
                          refine pure_ (i := 11) (N := some 26) (v := ?_) (a' := ?_) #[true, true, true, true, false, true, true, true, true, true, true, true, false, false, false, false, false, false, false] rfl rfl (any_of HT_.out (by kernel_rfl)) (fun _ _ _ h => h) (Or.inl ⟨by rfl, ?_⟩) ?_ ?_
                          rotate_left
                          · intro w'
                            go_simp
                            with_reducible rfl
                          rotate_left
                          · simp only [Act.put, List.setIfInBounds_toArray, List.set_cons_zero, List.set_cons_succ, i64_w, i32_w]
                            rfl
                          refine pure_ (i := 12) (N := some 27) (v := ?_) (a' := ?_) #[true, true, true, true, false, true, true, true, true, true, true, true, true, false, false, false, false, false, false] rfl rfl (any_of HT_.out (by kernel_rfl)) (fun _ _ _ h => h) (Or.inl ⟨by rfl, ?_⟩) ?_ ?_
                          rotate_left
                          · intro w'
                            go_simp
                            with_reducible rfl
                          rotate_left
                          · simp only [Act.put, List.setIfInBounds_toArray, List.set_cons_zero, List.set_cons_succ, i64_w, i32_w]
                            rfl
                          refine take_ (i := 4) (N := some 19) (v := ?_) (a' := ?_) #[true, true, true, true, true, true, true, true, true, true, true, true, true, false, false, false, false, false, false] rfl rfl (take_ofW HT_.out HW_.out (by kernel_rfl)) (fun _ _ _ h => h) (Or.inl ⟨by rfl, ?_⟩) hHeld ?_ ?_
                          rotate_left
                          · rintro w' ⟨s0, s1, s2, s3, s4⟩
                            go_simp
                            with_reducible rfl
                          rotate_left
                          · simp only [Act.put, List.setIfInBounds_toArray, List.set_cons_zero, List.set_cons_succ, i64_w, i32_w]
                            rfl
                          refine take_ (i := 13) (N := some 28) (v := ?_) (a' := ?_) #[true, true, true, true, true, true, true, true, true, true, true, true, true, true, false, false, false, false, false] rfl rfl (take_ofW HT_.out HW_.out (by kernel_rfl)) (fun _ _ _ h => h) (Or.inl ⟨by rfl, ?_⟩) hHeld ?_ ?_
                          rotate_left
                          · rintro w' ⟨s0, s1, s2, s3, s4⟩
                            go_simp
                            with_reducible rfl
                          rotate_left
                          · simp only [Act.put, List.setIfInBounds_toArray, List.set_cons_zero, List.set_cons_succ, i64_w, i32_w]
                            rfl
                          refine pure_ (i := 14) (N := some 29) (v := ?_) (a' := ?_) #[true, true, true, true, true, true, true, true, true, true, true, true, true, true, true, false, false, false, false] rfl rfl (any_of HT_.out (by kernel_rfl)) (fun _ _ _ h => h) (Or.inl ⟨by rfl, ?_⟩) ?_ ?_
                          rotate_left
                          · intro w'
                            go_simp
                            with_reducible rfl
                          rotate_left
                          · simp only [Act.put, List.setIfInBounds_toArray, List.set_cons_zero, List.set_cons_succ, i64_w, i32_w]
                            rfl
                          refine take_ (i := 15) (N := some 30) (v := ?_) (a' := ?_) #[true, true, true, true, true, true, true, true, true, true, true, true, true, true, true, true, false, false, false] rfl rfl (take_ofW HT_.out HW_.out (by kernel_rfl)) (fun _ _ _ h => h) (Or.inl ⟨by rfl, ?_⟩) hHeld ?_ ?_
                          rotate_left
                          · rintro w' ⟨s0, s1, s2, s3, s4⟩
                            go_simp
                            with_reducible rfl
                          rotate_left
                          · simp only [Act.put, List.setIfInBounds_toArray, List.set_cons_zero, List.set_cons_succ, i64_w, i32_w]
                            rfl
                          refine one_ (i := 16) (N := some 31) #[true, true, true, true, true, true, true, true, true, true, true, true, true, true, true, true, true, false, false] rfl rfl (one_of HT_.out (by kernel_rfl)) (by decide) (fun K hK => ?_)
                          refine goes_ Try.func36 (by kernel_rfl) rfl #[.agg #[.int .i64 ((rd_T26 l0 (rd l1 x10_1)).f0), .int .i64 ((rd_T26 l0 (rd l1 x10_1)).f1)], .agg #[.int .i64 ((rd_T26 l0 (rd l1 (ji9))).f0), .int .i64 ((rd_T26 l0 (rd l1 (ji9))).f1)]] (by rfl) rfl rfl (by (try simp only [List.map_toArray, List.map_cons, List.map_nil]); first | done | (simp only [hji9]; rfl) | rfl | (simp only [List.length_drop, List.length_take]; rfl)) ?_
                          with_reducible refine (impl_way.calls ((rd_T26 l0 (rd l1 x10_1)).f0) ((rd_T26 l0 (rd l1 x10_1)).f1) ((rd_T26 l0 (rd l1 (ji9))).f0) ((rd_T26 l0 (rd l1 (ji9))).f1) t176 _ A14.out).mono ?_
                          rintro e w16 ⟨rfl, hb⟩
                          refine ⟨_, rfl, ?_⟩
                          have n0_ := Aside0.mk (below_step (by repeat (first | (with_reducible first | exact HB.out | apply below_alloc | apply pw_below_drewN | apply below_drew1) | exact HB.out)) hb)
                          clear HB
                          have HB := n0_
                          clear n0_
                          (try clear hb)
                          (try clear hb2)
                          (try clear hk)
                          (try clear hi)
                          refine hK.out _ _ ⟨((HB.out.cell (World.block_lt_of_cell? w _ hw173_0)).trans hw173_0), ((HB.out.cell (World.block_lt_of_cell? w _ hw173_1)).trans hw173_1), ((HB.out.cell (World.block_lt_of_cell? w _ hw174_0)).trans hw174_0), ((HB.out.cell (World.block_lt_of_cell? w _ hw175_0)).trans hw175_0), ((HB.out.cell (World.block_lt_of_cell? w _ hw175_1)).trans hw175_1)⟩ (fun hHeld => ?_)
                          clear hK K
                          refine norm_ (a' := ?_) ?_ ?_
                          rotate_left
                          · show Act.put _ (some 31) _ = _
                            simp only [Act.put, List.setIfInBounds_toArray, List.set_cons_zero, List.set_cons_succ, i64_w, i32_w]
                            rfl
                          refine pure_ (i := 17) (N := some 32) (v := ?_) (a' := ?_) #[true, true, true, true, true, true, true, true, true, true, true, true, true, true, true, true, true, true, false] rfl rfl (any_of HT_.out (by kernel_rfl)) (fun _ _ _ h => h) (Or.inl ⟨by rfl, ?_⟩) ?_ ?_
                          rotate_left
                          · intro w'
                            go_simp
                            with_reducible rfl
                          rotate_left
                          · simp only [Act.put, List.setIfInBounds_toArray, List.set_cons_zero, List.set_cons_succ, i64_w, i32_w]
                            rfl
                          refine pure_ (i := 18) (N := some 5) (v := ?_) (a' := ?_) #[true, true, true, true, true, true, true, true, true, true, true, true, true, true, true, true, true, true, true] rfl rfl (any_of HT_.out (by kernel_rfl)) (fun _ _ _ h => h) (Or.inl ⟨by rfl, ?_⟩) ?_ ?_
                          rotate_left
                          · intro w'
                            go_simp
                            with_reducible rfl
                          rotate_left
                          · simp only [Act.put, List.setIfInBounds_toArray, List.set_cons_zero, List.set_cons_succ, i64_w, i32_w]
                            rfl
                          refine done_ (done_of HT_.out (by kernel_rfl)) ?_
                          try go_wp2
                          go_roundg k1
                          case measure => have := HK1.out; omega
                          case rel => exact ⟨(wrap64 (x5_1 + t176)), (wrap64 (x10_1 + 1)), (by first | rfl | (simp; done) | (simp [*]; done)), (by first | rfl | (simp; done) | (simp [*]; done)), H', ⟨by have := HK1.out; omega⟩, ⟨by repeat (first | (with_reducible first | exact HB.out | apply below_alloc | apply pw_below_drewN | apply below_drew1) | exact HB.out)⟩⟩
                        · rw [if_neg c13] at H
                          exact absurd H (by simp)
                      · rw [if_neg c12] at H
                        exact absurd H (by simp)
                    · rw [if_neg c11] at H
                      exact absurd H (by simp)
                  · rw [if_neg c10] at H
                    exact absurd H (by simp)
              · rw [if_neg c7] at H
                exact absurd H (by simp)
            · rw [if_neg c6] at H
              exact absurd H (by simp)
          · rw [if_neg c5] at H
            exact absurd H (by simp)
        · rw [if_neg c4] at H
          exact absurd H (by simp)
      · rw [if_neg c3] at H
        have c3b0 : decide (x10_1 < (l1.length : Int)) = false := decide_eq_false c3
        clear c3
        obtain rfl := Option.some.inj H
        go_wp2
        go_ret
        exact ⟨by first | rfl | (simp [errW_none, errW_some] <;> rfl) | (simp [*, errW_none, errW_some] <;> rfl), by repeat (first | (with_reducible first | exact HB.out | apply below_alloc | apply pw_below_drewN | apply below_drew1) | exact HB.out)⟩

/-! ### slices_Clone_int_int: function 49 -/
def slices_Clone_int_int.f (l0 : List Int) : Option (List Int) := if l0.length < 17592186044416 then some l0 else none
set_option maxHeartbeats 4000000 in
theorem slices_Clone_int_int.calls (A0 : Option Addr) (c0 : Nat) (l0 : List Int) (r : List Int) (w : World) (hr0 : Kd.C (Kd.int .i64) w A0 l0.length l0) (hc0 : l0.length ≤ c0) (h : slices_Clone_int_int.f l0 = some r) :
    Calls Try.prog 49 #[.slice A0 l0.length c0] w fun e w' => ∃ v0_ : Value, e = .returned (v0_) ∧ Kd.R (Kd.int .i64) 3 w' w.heap.size (fun _ => True) v0_ r ∧ Below w.heap.size w w' := by
  unfold slices_Clone_int_int.f at h
  split at h
  case isFalse => cases h
  case isTrue hl =>
  obtain rfl := Option.some.inj h
  clear h
  have HL := Aside0.mk hl
  clear hl
  have HR0 := Aside0.mk hr0
  clear hr0 hc0
  cases A0 with
  | none =>
    have e0 : l0 = [] := by
      cases l0 with
      | nil => rfl
      | cons x l =>
        obtain ⟨ad, e, _⟩ := HR0.out.2.2 (by simp)
        cases e
    subst e0
    have hcmp := fun (W : World) (m c : Nat) => Lib.run_eql_slice_nil (P := Try.prog) W 39 3 none m c 0 0 Try.underlying39
    simp only [Option.isNone_none] at hcmp
    go_enter Try.func49, Try.ntmps49
    go_wp2
    go_ret
    exact ⟨_, rfl, Kd.R_nil _ _ _ _ _, Below.refl _ _⟩
  | some a0 =>
    have hcmp := fun (W : World) (m c : Nat) => Lib.run_eql_slice_nil (P := Try.prog) W 39 3 (some a0) m c 0 0 Try.underlying39
    simp only [Option.isNone_some] at hcmp
    go_enter Try.func49, Try.ntmps49
    go_wp2_with (first | ((with_reducible refine gate_dst (N := 5) rfl ?_); refine Kd.R_lit (Kd.int .i64) _ 3 ?hg (N := 5) ?hd (xs := ([] : List Int)) (inner := []) (ok := fun _ => True) (okp := fun _ => True) ?hr ?hp (fun _ hk => hk) trivial (Below.refl _ _) (Nat.le_refl _) (by simp) ?_; (case hd => rfl); (case hg => rfl); (case hr => first | (go_simp; done) | (go_simp; rfl)); (case hp => exact (Reps.none _ _)); intro v1 w1 ho1 hb1 hg_ hnew_; clear hg_ hnew_; have HO1 := Aside0.mk ho1; have HB1 := Aside0.mk hb1; clear ho1 hb1) | ((with_reducible refine gate_builtin (b := .append) (xs := #[.tmp 5, .tmp 6]) rfl ?_); at_builtin; refine Kd.R_append_rows (Kd.int .i64) (w0 := w) w.heap.size rfl (.tmp 5) (.tmp 6) 39 3 (.int .i64 0) 8 rfl Try.underlying39 info3 rfl (by decide) (by omega) v1 ([] : List Int) l0 _ _ _ (fun _ => True) (fun _ => False) rfl rfl ?aO ?aR (fun _ _ h => h) (fun _ h => h.elim) ?aF ?aB ?aS ?aL ?_; (case aR => exact Kd.C_below HR0.out HB1.out); (case aB => exact HB1.out); (case aF => exact (fun _ _ => trivial)); (case aO => exact HO1.out); (case aS => exact below_size HB1.out); (case aL => have := HL.out; simp; omega); intro v2 w2 ho2 hb2 hg hat; have HO2 := Aside0.mk ho2; have HB2 := Aside0.mk hb2; clear ho2 hb2 hg hat))
    go_ret
    exact ⟨_, rfl, HO2.out, HB2.out⟩

/-! ### impl_BestTour: function 25 -/
/-- The visitor's state behind one order: the best order (none: []), its cost. -/
def impl_BestTour.step (k : Nat) (l0 : List (S26)) (o b : List Int) (c : Int) : Option (List Int × Int) :=
  (impl_tourCost.f k l0 o).bind fun t => if b = [] ∨ t < c then (slices_Clone_int_int.f o).bind fun v => some (v, t) else some (b, c)
/-- The orders over k, k + 1, ..: j of them are left. -/
def impl_BestTour.loop (g : List Int → List Int → Int → Option (List Int × Int)) (kk : Nat) (bg : List Int) : Nat → Int → List Int → Int → Option (List Int × Int)
  | 0, _, b, c => some (b, c)
  | j + 1, x, b, c => (slices_Contains_int_int.f kk bg x).bind fun t => if t = true then impl_BestTour.loop g kk bg j (x + 1) b c else (g (bg ++ [x]) b c).bind fun s => impl_BestTour.loop g kk bg j (x + 1) s.1 s.2
def impl_BestTour.visit (k : Nat) (l0 : List (S26)) : Nat → List Int → List Int → Int → Option (List Int × Int)
  | 0, bg, b, c => impl_BestTour.step k l0 bg b c
  | m + 1, bg, b, c => impl_BestTour.loop (impl_BestTour.visit k l0 m) k bg l0.length 0 b c
def impl_BestTour.f (k : Nat) (l0 : List (S26)) : Option (List Int × Int × Bool) :=
  (impl_GoodStops.f l0).bind fun t => if t = true then (if 1 ≤ l0.length ∧ l0.length ≤ 7 then (impl_BestTour.visit k l0 (l0.length - 1) [0] [] 0).bind fun s => some (s.1, s.2, true) else none) else some ([], 0, false)
theorem impl_BestTour.loop_mono {g g' : List Int → List Int → Int → Option (List Int × Int)} (h : ∀ a b c, LeO (g a b c) (g' a b c)) (kk : Nat) (bg : List Int) : ∀ (j : Nat) (x : Int) (b : List Int) (c : Int), LeO (impl_BestTour.loop g kk bg j x b c) (impl_BestTour.loop g' (kk + 1) bg j x b c)
  | 0, _, _, _ => LeO.refl _
  | j + 1, x, b, c => by
    unfold impl_BestTour.loop
    refine LeO.bind (slices_Contains_int_int.mono _ _ _) (fun t => LeO.ite (impl_BestTour.loop_mono h kk bg j _ _ _) (LeO.bind (h _ _ _) (fun s => impl_BestTour.loop_mono h kk bg j _ _ _)))
theorem impl_BestTour.visit_mono (k : Nat) (l0 : List (S26)) : ∀ (m : Nat) (bg b : List Int) (c : Int), LeO (impl_BestTour.visit k l0 m bg b c) (impl_BestTour.visit (k + 1) l0 m bg b c)
  | 0, bg, b, c => by
    unfold impl_BestTour.visit impl_BestTour.step
    exact LeO.bind (impl_tourCost.mono _ _ _) (fun t => LeO.refl _)
  | m + 1, bg, b, c => by
    unfold impl_BestTour.visit
    exact impl_BestTour.loop_mono (fun a b c => impl_BestTour.visit_mono k l0 m a b c) k bg _ _ _ _
theorem impl_BestTour.mono : ∀ a0 k, LeO (impl_BestTour.f k a0) (impl_BestTour.f (k + 1) a0) := by
  intro a0 k
  unfold impl_BestTour.f
  exact LeO.bind (LeO.refl _) (fun t => LeO.ite (LeO.ite (LeO.bind (impl_BestTour.visit_mono _ _ _ _ _ _) (fun _ => LeO.refl _)) (LeO.refl _)) (LeO.refl _))
/-- What the boxes hold: the stops, the best order, its cost. -/
def impl_BestTour.St (w0 w : World) (g1 g5 g6 : Nat) (A0 : Option Addr) (c0 : Nat) (l0 : List (S26)) (b : List Int) (c : Int) : Prop :=
  Below w0.heap.size w0 w ∧ w.heap[g1]? = some (.cells #[.slice A0 l0.length c0] 35 (0, 0)) ∧ w.heap[g6]? = some (.cells #[.int .i64 c] 3 (0, 0)) ∧ ∃ ub : Value, w.heap[g5]? = some (.cells #[ub] 39 (0, 0)) ∧ Kd.R (Kd.int .i64) 3 w w0.heap.size (fun k => k ≠ g1 ∧ k ≠ g5 ∧ k ≠ g6) ub b ∧ (b = [] → ub = .slice none 0 0)
def impl_BestTour.Gs (w0 : World) (g1 g5 g6 : Nat) : Prop := w0.heap.size ≤ g1 ∧ w0.heap.size ≤ g5 ∧ w0.heap.size ≤ g6 ∧ g1 ≠ g5 ∧ g1 ≠ g6 ∧ g5 ≠ g6
theorem impl_BestTour.St_below {w0 w w' : World} {g1 g5 g6 : Nat} {A0 : Option Addr} {c0 : Nat} {l0 : List (S26)} {b : List Int} {c : Int} (h : impl_BestTour.St w0 w g1 g5 g6 A0 c0 l0 b c) (hb : Below w.heap.size w w') : impl_BestTour.St w0 w' g1 g5 g6 A0 c0 l0 b c := by
  obtain ⟨h0, h1, h2, ub, h3, h4, h5⟩ := h
  exact ⟨below_step h0 hb, blk_below h1 hb, blk_below h2 hb, ub, blk_below h3 hb, Kd.R_below h4 hb, h5⟩
theorem impl_BestTour.eqnil (W : World) (a : Option Addr) (n c : Nat) : (binOp .eql 39 (.slice a n c) (.slice none 0 0)).run Try.prog W = .ok (.bool a.isNone) W := by
  simp only [binOp]
  simp [Op.equal, Op.maxDepth, Lib.run_equalIn_slice_nil W 9999 39 3 a n c 0 0 Try.underlying39]
/-- The end of a visit that keeps a better order. -/
theorem impl_BestTour.St_set {w0 w2 : World} {g1 g5 g6 B : Nat} {A0 : Option Addr} {c0 : Nat} {l0 : List (S26)} {b o : List Int} {c t : Int} {v : Value} (hG : impl_BestTour.Gs w0 g1 g5 g6) (h : impl_BestTour.St w0 w2 g1 g5 g6 A0 c0 l0 b c) (hR : Kd.R (Kd.int .i64) 3 w2 B (fun _ => True) v o) (hB : g1 < B ∧ g5 < B ∧ g6 < B) (hB0 : w0.heap.size ≤ B) (ho : o ≠ []) :
    impl_BestTour.St w0 ((w2.setCell ⟨g5, 0, none⟩ v).setCell ⟨g6, 0, none⟩ (.int .i64 t)) g1 g5 g6 A0 c0 l0 o t := by
  obtain ⟨h0, h1, h2, ub, h3, h4, h5⟩ := h
  obtain ⟨a1, a5, a6, n15, n16, n56⟩ := hG
  have hR2 : Kd.R (Kd.int .i64) 3 w2 w0.heap.size (fun k => k ≠ g1 ∧ k ≠ g5 ∧ k ≠ g6) v o := Kd.R_lower (Kd.R_mono (Kd.R_bound hR) (fun k hk => by have h7 := hk.2.1; exact ⟨by omega, by omega, by omega⟩)) hB0
  refine ⟨below_set (below_set h0 a5) a6, blk_far (blk_far h1 n15 _) n16 _, ?_, v, ?_, ?_, fun e => absurd e ho⟩
  · exact blk_set (blk_far h2 (Ne.symm n56) _) 0 _
  · exact blk_far (blk_set h3 0 _) n56 _
  · exact Kd.R_far (Kd.R_far hR2 (fun _ hk => hk.2.1) _) (fun _ hk => hk.2.2) _
set_option maxHeartbeats 8000000 in
set_option maxRecDepth 100000 in
theorem impl_BestTour.clo (k : Nat) (w0 w : World) (g1 g5 g6 : Nat) (A0 : Option Addr) (c0 : Nat) (l0 : List (S26)) (hr0 : Kd.C k26 w0 A0 l0.length l0) (hc0 : l0.length ≤ c0) (b : List Int) (c : Int) (Ao : Option Addr) (co : Nat) (o : List Int) (hro : Kd.C (Kd.int .i64) w Ao o.length o) (hco : o.length ≤ co) (ho : o ≠ []) (hG : impl_BestTour.Gs w0 g1 g5 g6) (hS : impl_BestTour.St w0 w g1 g5 g6 A0 c0 l0 b c) (r : List Int × Int) (h : impl_BestTour.step k l0 o b c = some r) :
    Calls Try.prog 48 #[.slice Ao o.length co, .pointer (some ⟨g1, 0, none⟩), .pointer (some ⟨g5, 0, none⟩), .pointer (some ⟨g6, 0, none⟩)] w fun e w' => e = .returned (.tuple #[]) ∧ impl_BestTour.St w0 w' g1 g5 g6 A0 c0 l0 r.1 r.2 ∧ Kept w w' (fun k => k = g5 ∨ k = g6) := by
  unfold impl_BestTour.step at h
  obtain ⟨t, ht, h⟩ := Option.bind_eq_some_iff.mp h
  have HT := Aside0.mk ht
  have HG := Aside0.mk hG
  have HS := Aside0.mk hS
  have HO := Aside0.mk ho
  have HRO := Aside0.mk hro
  have HCO := Aside0.mk hco
  have HR0 := Aside0.mk (Kd.C_below hr0 hS.1)
  have HC0 := Aside0.mk hc0
  have HH := Aside0.mk h
  have hEq := impl_BestTour.eqnil
  have HE := Aside0.mk hEq
  have k1 : w.cell? ⟨g1, 0, none⟩ = some (.slice A0 l0.length c0) := (blk_cell hS.2.1 0).trans rfl
  obtain ⟨_, _, s6, ub, s5, sR, sN⟩ := hS
  have B6 := Aside0.mk s6
  have B5 := Aside0.mk s5
  obtain ⟨Ab, cb, rfl⟩ := Kd.R_slice sR
  have hnil : Ab.isNone = decide (b = []) := by
    cases b with
    | nil =>
      have e := sN rfl
      injection e with e1
      rw [e1]
      rfl
    | cons x b =>
      obtain ⟨ad, e, _⟩ := (Kd.R_reads' sR).2.2.2.2 (by simp)
      rw [e]
      rfl
  clear ht hG ho hro hco hr0 hc0 h hEq s6 s5 sR sN
  go_enter Try.func48, Try.ntmps48
  go_wp2_with fail
  go_at_call 45
  refine (impl_tourCost.calls k A0 c0 l0 Ao co o t _ HR0.out HC0.out HRO.out HCO.out HT.out).mono ?_
  rintro e w1 ⟨rfl, hb1⟩
  have HS1 := Aside0.mk (impl_BestTour.St_below HS.out hb1)
  have HB1 := Aside0.mk hb1
  have C6 := Aside0.mk (blk_below B6.out hb1)
  have C5 := Aside0.mk (blk_below B5.out hb1)
  clear hb1 k1 B6 B5
  have k5 : w1.cell? ⟨g5, 0, none⟩ = some (.slice Ab b.length cb) := (blk_cell C5.out 0).trans rfl
  have k6 : w1.cell? ⟨g6, 0, none⟩ = some (.int .i64 c) := (blk_cell C6.out 0).trans rfl
  have hh := HH.out
  by_cases cc : b = [] ∨ t < c
  · rw [if_pos cc] at hh
    obtain ⟨v, hv, hr⟩ := Option.bind_eq_some_iff.mp hh
    obtain rfl := Option.some.inj hr
    have hvo : v = o := by
      unfold slices_Clone_int_int.f at hv
      split at hv
      · exact (Option.some.inj hv).symm
      · cases hv
    have HV := Aside0.mk hv
    have HVO := Aside0.mk hvo
    have hlt : (Ab.isNone || decide (t < c)) = true := by
      rw [hnil]
      rcases cc with c1 | c1
      · rw [decide_eq_true c1]; rfl
      · rw [decide_eq_true c1, Bool.or_true]
    clear hv hvo hh hr cc HH
    cases hAb : Ab.isNone with
    | true =>
      have HQ := HE.out
      have en : Ab = none := by cases Ab with
        | none => rfl
        | some a => cases hAb
      subst en
      clear hAb hlt hnil
      go_wp2_with fail
      go_at_call 49
      refine (slices_Clone_int_int.calls Ao co o v _ (Kd.C_below HRO.out HB1.out) HCO.out HV.out).mono ?_
      rintro e w2 ⟨u, rfl, hR, hb2⟩
      have HR := Aside0.mk hR
      have HB2 := Aside0.mk hb2
      have HS2 := Aside0.mk (impl_BestTour.St_below HS1.out hb2)
      have D5 := Aside0.mk (blk_below C5.out hb2)
      have D6 := Aside0.mk (blk_below C6.out hb2)
      have hB := Aside0.mk (show g1 < w1.heap.size ∧ g5 < w1.heap.size ∧ g6 < w1.heap.size from ⟨blk_lt HS1.out.2.1, blk_lt C5.out, blk_lt C6.out⟩)
      have m5 : w2.cell? ⟨g5, 0, none⟩ = some (.slice none b.length cb) := (blk_cell D5.out 0).trans rfl
      have m6 : w2.cell? ⟨g6, 0, none⟩ = some (.int .i64 c) := (blk_cell D6.out 0).trans rfl
      have f5 := blk_frozen D5.out 0
      have f6 := blk_frozen D6.out 0
      have n56 := HG.out.2.2.2.2.2
      have n65 := Ne.symm n56
      obtain ⟨Au, cu, rfl⟩ := Kd.R_slice HR.out
      clear hR hb2 k5 k6
      go_wp2
      go_end0
      refine ⟨rfl, ?_, ?_⟩
      · have e := HVO.out
        subst e
        exact impl_BestTour.St_set HG.out HS2.out HR.out hB.out (by have := HS1.out.1.size; exact this) HO.out
      · exact ((((Kept.of_below HB1.out _).below HB2.out).setCell (p := ⟨g5, 0, none⟩) (Or.inl (Or.inl rfl)) _).setCell (p := ⟨g6, 0, none⟩) (Or.inl (Or.inr rfl)) _)
    | false =>
      rw [hAb, Bool.false_or, decide_eq_true_eq] at hlt
      obtain ⟨ad, rfl⟩ : ∃ ad, Ab = some ad := by cases Ab with
        | none => cases hAb
        | some a => exact ⟨a, rfl⟩
      have d1 : decide (t < c) = true := decide_eq_true hlt
      have HQ := HE.out
      clear hAb hlt hnil
      go_wp2_with fail
      go_at_call 49
      refine (slices_Clone_int_int.calls Ao co o v _ (Kd.C_below HRO.out HB1.out) HCO.out HV.out).mono ?_
      rintro e w2 ⟨u, rfl, hR, hb2⟩
      have HR := Aside0.mk hR
      have HB2 := Aside0.mk hb2
      have HS2 := Aside0.mk (impl_BestTour.St_below HS1.out hb2)
      have D5 := Aside0.mk (blk_below C5.out hb2)
      have D6 := Aside0.mk (blk_below C6.out hb2)
      have hB := Aside0.mk (show g1 < w1.heap.size ∧ g5 < w1.heap.size ∧ g6 < w1.heap.size from ⟨blk_lt HS1.out.2.1, blk_lt C5.out, blk_lt C6.out⟩)
      have m5 : w2.cell? ⟨g5, 0, none⟩ = some (.slice (some ad) b.length cb) := (blk_cell D5.out 0).trans rfl
      have m6 : w2.cell? ⟨g6, 0, none⟩ = some (.int .i64 c) := (blk_cell D6.out 0).trans rfl
      have f5 := blk_frozen D5.out 0
      have f6 := blk_frozen D6.out 0
      have n56 := HG.out.2.2.2.2.2
      have n65 := Ne.symm n56
      obtain ⟨Au, cu, rfl⟩ := Kd.R_slice HR.out
      clear hR hb2 k5 k6
      go_wp2
      go_end0
      refine ⟨rfl, ?_, ?_⟩
      · have e := HVO.out
        subst e
        exact impl_BestTour.St_set HG.out HS2.out HR.out hB.out (by have := HS1.out.1.size; exact this) HO.out
      · exact ((((Kept.of_below HB1.out _).below HB2.out).setCell (p := ⟨g5, 0, none⟩) (Or.inl (Or.inl rfl)) _).setCell (p := ⟨g6, 0, none⟩) (Or.inl (Or.inr rfl)) _)
  · rw [if_neg cc] at hh
    obtain rfl := Option.some.inj hh
    have hne : ¬ b = [] := fun e => cc (Or.inl e)
    have hnl : ¬ t < c := fun e => cc (Or.inr e)
    rw [decide_eq_false hne] at hnil
    obtain ⟨ad, rfl⟩ : ∃ ad, Ab = some ad := by cases Ab with
      | none => cases hnil
      | some a => exact ⟨a, rfl⟩
    have d1 : decide (t < c) = false := decide_eq_false hnl
    have HQ := HE.out
    clear hnil hh cc hne hnl HH
    go_wp2
    go_end0
    exact ⟨rfl, HS1.out, Kept.of_below HB1.out _⟩
set_option maxHeartbeats 8000000 in
set_option maxRecDepth 100000 in
theorem impl_BestTour.run (k : Nat) (w0 : World) (g1 g5 g6 : Nat) (A0 : Option Addr) (c0 : Nat) (l0 : List (S26)) (hr0 : Kd.C k26 w0 A0 l0.length l0) (hc0 : l0.length ≤ c0) (hl0 : l0.length ≤ 7) (hG : impl_BestTour.Gs w0 g1 g5 g6) : ∀ (m : Nat) (bg : List Int) (b : List Int) (c : Int) (Ao : Option Addr) (co : Nat) (w : World), bg ≠ [] → bg.length + m = l0.length → bg.length ≤ co → (∀ W', Kept w W' (fun k => k = g5 ∨ k = g6) → Kd.C (Kd.int .i64) W' Ao bg.length bg) → impl_BestTour.St w0 w g1 g5 g6 A0 c0 l0 b c → ∀ r, impl_BestTour.visit k l0 m bg b c = some r →
    Calls Try.prog 47 #[.int .i64 (l0.length : Int), .slice Ao bg.length co, .func (.func 48) #[] #[.pointer (some ⟨g1, 0, none⟩), .pointer (some ⟨g5, 0, none⟩), .pointer (some ⟨g6, 0, none⟩)]] w fun e w' => e = .returned (.tuple #[]) ∧ impl_BestTour.St w0 w' g1 g5 g6 A0 c0 l0 r.1 r.2 ∧ Kept w w' (fun k => k = g5 ∨ k = g6)
  | 0, bg, b, c, Ao, co, w, hne, hm, hco, hC, hS, r, h => by
    have hcall := impl_BestTour.clo k w0 w g1 g5 g6 A0 c0 l0 hr0 hc0 b c Ao co bg (hC w (Kept.refl _ _)) hco hne hG hS r h
    have HC := Aside0.mk hcall
    have eg : ∀ args w, (callFunc 48 args).run Try.prog w = .ok (.enter 48 args) w := enters_of Try.func48 (by kernel_rfl) rfl
    have e1 : decide ((bg.length : Int) = (l0.length : Int)) = true := decide_eq_true (by omega)
    have e2 : ((bg.length : Int) == (l0.length : Int)) = true := by rw [beq_iff_eq]; omega
    have e3 : (bg.length == l0.length) = true := by rw [beq_iff_eq]; omega
    clear hcall hr0 hc0 hG hC hS h hne hm hco
    go_enter Try.func47, Try.ntmps47
    go_wp2_with (go_at_fn 48; refine HC.out.mono ?_; rintro e w' ⟨rfl, hS', hK'⟩; have HS' := Aside0.mk hS'; have HK' := Aside0.mk hK'; clear hS' hK')
    refine bodyPost_ret (results_none rfl _ _ _) rfl ?_
    exact ⟨rfl, HS'.out, HK'.out⟩
  | m + 1, bg, b, c, Ao, co, w, hne, hm, hco, hC, hS, r, h => by
    have IH := Aside0.mk (impl_BestTour.run k w0 g1 g5 g6 A0 c0 l0 hr0 hc0 hl0 hG m)
    unfold impl_BestTour.visit at h
    have HM := Aside0.mk (show bg.length + (m + 1) = l0.length ∧ l0.length ≤ 7 from ⟨hm, hl0⟩)
    have HCO := Aside0.mk hco
    have HC := Aside0.mk hC
    have HS := Aside0.mk hS
    have HH := Aside0.mk h
    have HG := Aside0.mk hG
    have e1 : decide ((bg.length : Int) = (l0.length : Int)) = false := decide_eq_false (by omega)
    have e2 : ((bg.length : Int) == (l0.length : Int)) = false := by rw [beq_eq_false_iff_ne]; omega
    have e3 : (bg.length == l0.length) = false := by rw [beq_eq_false_iff_ne]; omega
    clear hr0 hc0 hl0 hG hC hS h hne hm hco
    go_enter Try.func47, Try.ntmps47
    go_wp2
    go_loopg [6, 15] l0.length (fun gk _ v15 w' => ∃ (x : Nat) (b2 : List Int) (c2 : Int), v15 = .int .i64 (x : Int) ∧ Aside0 (x + gk = l0.length ∧ impl_BestTour.loop (impl_BestTour.visit k l0 m) k bg gk (x : Int) b2 c2 = some r) ∧ Aside0 (impl_BestTour.St w0 w' g1 g5 g6 A0 c0 l0 b2 c2) ∧ Aside0 (Kept w w' (fun k => k = g5 ∨ k = g6)))
    case atStart => exact ⟨0, b, c, rfl, ⟨by omega, HH.out⟩, HS, ⟨Kept.refl _ _⟩⟩
    case round =>
      clear HS HH
      obtain ⟨x, b2, c2, rfl, HT, HS, HK⟩ := hrel
      cases gk with
      | zero =>
        have d3 : decide ((x : Int) < (l0.length : Int)) = false := decide_eq_false (by have := HT.out.1; omega)
        have d4 : ((x : Int) < (l0.length : Int)) = False := eq_false (by have := HT.out.1; omega)
        have d5 : decide (x < l0.length) = false := decide_eq_false (by have := HT.out.1; omega)
        have hT := HT.out.2
        rw [impl_BestTour.loop] at hT
        obtain rfl := Option.some.inj hT
        clear hT
        go_wp2
        go_end0
        exact ⟨rfl, HS.out, HK.out⟩
      | succ gk =>
        have d3 : decide ((x : Int) < (l0.length : Int)) = true := decide_eq_true (by have := HT.out.1; omega)
        have d4 : ((x : Int) < (l0.length : Int)) = True := eq_true (by have := HT.out.1; omega)
        have d5 : decide (x < l0.length) = true := decide_eq_true (by have := HT.out.1; omega)
        have hT := HT.out.2
        rw [impl_BestTour.loop] at hT
        obtain ⟨t, ht, hT⟩ := Option.bind_eq_some_iff.mp hT
        have HX := Aside0.mk (show x + (gk + 1) = l0.length from HT.out.1)
        have HCN := Aside0.mk (HC.out wr HK.out)
        have HQ := Aside0.mk (slices_Contains_int_int.calls k Ao co bg (x : Int) t wr HCN.out HCO.out ht)
        have hx1 : wrap64 ((x : Int) + 1) = ((x + 1 : Nat) : Int) := by have := HX.out; have := HM.out; unfold wrap64; omega
        clear ht HT
        cases t with
        | true =>
          rw [if_pos rfl] at hT
          have HT := Aside0.mk hT
          clear hT
          go_wp2_with (go_at_call 59; refine HQ.out.mono ?_; rintro e w' ⟨rfl, ⟨nd, rfl⟩⟩)
          go_roundg gk
          case measure => omega
          case rel => exact ⟨x + 1, b2, c2, by first | rfl | rw [hx1], ⟨by have := HX.out; omega, by have := HT.out; simpa using this⟩, ⟨impl_BestTour.St_below HS.out (pw_below_drewN (Below.refl _ _) _)⟩, ⟨HK.out.drewN _⟩⟩
        | false =>
          rw [if_neg (by decide)] at hT
          obtain ⟨s, hs, hT⟩ := Option.bind_eq_some_iff.mp hT
          have HV := Aside0.mk hs
          have HT := Aside0.mk hT
          clear hT hs
          have s1 : decide ((bg.length : Int) ≤ (co : Int)) = true := decide_eq_true (by have := HCO.out; omega)
          have s2 : ((bg.length : Int) ≤ (co : Int)) = True := eq_true (by have := HCO.out; omega)
          have s3 : (0 ≤ (bg.length : Int)) = True := eq_true (by omega)
          have s4 : decide (0 ≤ (bg.length : Int)) = true := decide_eq_true (by omega)
          have s5 : bg.length ≤ co := HCO.out
          go_wp2_with fail
          go_at_call 59
          refine HQ.out.mono ?_
          rintro e w' ⟨rfl, ⟨nd, rfl⟩⟩
          go_wp2_with ((with_reducible refine gate_builtin (b := .append) (xs := #[.tmp 28, .tmp 30]) rfl ?_); refine I_append_full rfl (.tmp 28) (.tmp 30) 39 3 (.int .i64 0) 8 rfl Try.underlying39 info3 rfl (by omega) Ao bg (x : Int) w0.heap.size (fun k_ => wr.heap.size ≤ k_) rfl rfl (fun _ h_ => by simpa using h_) (Kd.C_drewN HCN.out _) (by have := HS.out.1.size; simpa using this) (by have := HM.out; omega) ?_; intro v1 w1 hR1 hB1; have HR1 := Aside0.mk hR1; have HB1 := Aside0.mk hB1; clear hR1 hB1; obtain ⟨A1, c1, e1_⟩ := Kd.R_slice HR1.out; subst e1_)
          go_at_call 47
          have hcall := IH.out (bg ++ [(x : Int)]) b2 c2 A1 c1 w1 (by simp) (by rw [List.length_append, List.length_singleton]; have := HM.out; omega) (Kd.R_reads' HR1.out).2.1 (Kd.C_kept_own HR1.out (fun k_ h_ hk_ => by have h5 := blk_lt HS.out.2.2.1; obtain ⟨ub, hub, _⟩ := HS.out.2.2.2; have h6 := blk_lt hub; rcases hk_ with rfl | rfl <;> omega)) (impl_BestTour.St_below HS.out (below_step (pw_below_drewN (Below.refl _ _) _) HB1.out)) s HV.out
          rw [show (bg ++ [(x : Int)]).length = bg.length + 1 by simp] at hcall
          refine hcall.mono ?_
          clear hcall
          rintro e w2 ⟨rfl, hS2, hK2⟩
          have HS2 := Aside0.mk hS2
          have HK2 := Aside0.mk hK2
          clear hS2 hK2
          go_wp2_with fail
          go_roundg gk
          case measure => omega
          case rel => exact ⟨x + 1, s.1, s.2, by first | rfl | rw [hx1], ⟨by have := HX.out; omega, by have := HT.out; simpa using this⟩, HS2, ⟨((HK.out.drewN _).below HB1.out).then_ HK2.out (fun k_ hk_ => Or.inl hk_)⟩⟩
set_option maxHeartbeats 8000000 in
set_option maxRecDepth 100000 in
theorem impl_BestTour.calls (k : Nat) (A0 : Option Addr) (c0 : Nat) (l0 : List (S26)) (r1 : List Int) (r2 : Int) (r3 : Bool) (w : World) (hr0 : Kd.C k26 w A0 l0.length l0) (hc0 : l0.length ≤ c0) (h : impl_BestTour.f k l0 = some (r1, r2, r3)) :
    Calls Try.prog 25 #[.slice A0 l0.length c0] w fun e w' => ∃ v0_ : Value, e = .returned (.tuple #[v0_, .int .i64 r2, .bool r3]) ∧ Kd.R (Kd.int .i64) 3 w' w.heap.size (fun _ => True) v0_ r1 ∧ Below w.heap.size w w' := by
  unfold impl_BestTour.f at h
  obtain ⟨t, ht, h⟩ := Option.bind_eq_some_iff.mp h
  have HR0 := Aside0.mk hr0
  have HC0 := Aside0.mk hc0
  have HT := Aside0.mk ht
  have HH := Aside0.mk h
  clear hr0 hc0 ht h
  go_enter Try.func25, Try.ntmps25
  go_wp2_with ((with_reducible refine gate_dst (N := 1) rfl ?_); refine box_event ?hg (N := 1) ?hd (cs := #[.slice A0 l0.length c0]) (t := 35) ?hr ?_; (case hd => rfl); (case hg => rfl); (case hr => first | (go_simp; done) | (go_simp; rfl)); intro g1 hg w1 hbox hb; have B1 := Aside0.mk hbox; have HB1 := Aside0.mk hb; have E1 := Aside0.mk hg; have k1 : w1.cell? ⟨g1, 0, none⟩ = some (.slice A0 l0.length c0) := (blk_cell hbox 0).trans rfl; clear hg hbox hb)
  go_at_call 18
  refine (impl_GoodStops.calls A0 c0 l0 t _ (Kd.C_below HR0.out HB1.out) HC0.out HT.out).mono ?_
  rintro e w2 ⟨rfl, hb⟩
  have HB2 := Aside0.mk hb
  have C1 := Aside0.mk (blk_below B1.out hb)
  clear hb k1
  have h := HH.out
  cases t with
  | false =>
    simp only [Bool.false_eq_true, if_false, Option.some.injEq, Prod.mk.injEq] at h
    obtain ⟨rfl, rfl, rfl⟩ := h
    go_wp2_with fail
    go_ret3
    exact ⟨_, rfl, Kd.R_nil _ _ _ _ _, below_step HB1.out HB2.out⟩
  | true =>
    rw [if_pos rfl] at h
    by_cases hl : 1 ≤ l0.length ∧ l0.length ≤ 7
    case neg => rw [if_neg hl] at h; cases h
    rw [if_pos hl] at h
    obtain ⟨⟨s1, s2⟩, hs, h⟩ := Option.bind_eq_some_iff.mp h
    simp only [Option.some.injEq, Prod.mk.injEq] at h
    obtain ⟨rfl, rfl, rfl⟩ := h
    have HV := Aside0.mk hs
    have HL := Aside0.mk hl
    clear hs hl HH
    have HX := Aside0.mk (below_step HB1.out HB2.out)
    have n1 : w.heap.size ≤ g1 := Nat.le_of_eq E1.out.symm
    have N1 := Aside0.mk n1
    clear n1
    go_wp2_with (first | ((with_reducible refine gate_dst (N := 5) rfl ?_); refine box_event ?hg (N := 5) ?hd (cs := #[.slice none 0 0]) (t := 39) ?hr ?_; (case hd => rfl); (case hg => rfl); (case hr => first | (go_simp; done) | (go_simp; rfl)); intro g5 hg w3 hbox hb; have B5 := Aside0.mk hbox; have HB3 := Aside0.mk hb; have E5 := Aside0.mk hg; clear hg hbox hb) | ((with_reducible refine gate_dst (N := 6) rfl ?_); refine box_event ?hg (N := 6) ?hd (cs := #[.int .i64 0]) (t := 3) ?hr ?_; (case hd => rfl); (case hg => rfl); (case hr => first | (go_simp; done) | (go_simp; rfl)); intro g6 hg w4 hbox hb; have B6 := Aside0.mk hbox; have HB4 := Aside0.mk hb; have E6 := Aside0.mk hg; have B5b := Aside0.mk (blk_below B5.out hb); have B1b := Aside0.mk (blk_below (blk_below C1.out HB3.out) hb); have n16 : g1 ≠ g6 := (by rw [hg]; exact Nat.ne_of_lt (blk_lt (blk_below C1.out HB3.out))); have n61 := Ne.symm n16; have n56 : g5 ≠ g6 := (by rw [hg]; exact Nat.ne_of_lt (blk_lt B5.out)); have N16 := Aside0.mk n16; have N56 := Aside0.mk n56; have z6 : w4.cell? ⟨g6, 0, none⟩ = some (.int .i64 0) := (blk_cell hbox 0).trans rfl; have f6 := blk_frozen hbox 0; have z1 : w4.cell? ⟨g1, 0, none⟩ = some (.slice A0 l0.length c0) := (blk_cell (blk_below (blk_below C1.out HB3.out) hb) 0).trans rfl; clear hg hbox hb n56) | ((with_reducible refine gate_dst (N := 12) rfl ?_); refine Kd.R_lit (Kd.int .i64) _ 3 ?hg (N := 12) ?hd (xs := ([0] : List Int)) (inner := [.int .i64 0]) (ok := fun _ => True) (okp := fun _ => True) ?hr ?hp (fun _ hk => hk) trivial (Below.refl _ _) (Nat.le_refl _) (by simp) ?_; (case hd => rfl); (case hg => rfl); (case hr => first | (go_simp; done) | (go_simp; rfl)); (case hp => exact (Reps.one (show Kd.M (Kd.int .i64) _ _ _ 0 [.int .i64 0] from rfl) (Reps.none _ _))); intro v12 w5 ho hb hg_ hnew_; have HO := Aside0.mk ho; have HB5 := Aside0.mk hb; clear ho hb hg_ hnew_; obtain ⟨A1, c1, e1_⟩ := Kd.R_slice HO.out; subst e1_))
    have D6 := Aside0.mk (blk_set B6.out 0 (.int .i64 0))
    have D5 := Aside0.mk (blk_far (p := ⟨g6, 0, none⟩) B5b.out N56.out (.int .i64 0))
    have D1 := Aside0.mk (blk_far (p := ⟨g6, 0, none⟩) B1b.out N16.out (.int .i64 0))
    have N5 := Aside0.mk (show w.heap.size ≤ g5 by rw [E5.out]; exact HX.out.size)
    have N6 := Aside0.mk (show w.heap.size ≤ g6 by rw [E6.out]; exact Nat.le_trans HX.out.size HB3.out.size)
    have N15 := Aside0.mk (show g1 ≠ g5 by rw [E5.out]; exact Nat.ne_of_lt (blk_lt C1.out))
    have HG := Aside0.mk (show impl_BestTour.Gs w g1 g5 g6 from ⟨N1.out, N5.out, N6.out, N15.out, N16.out, N56.out⟩)
    have hS0 : impl_BestTour.St w w5 g1 g5 g6 A0 c0 l0 [] 0 := ⟨below_step (below_set (below_step (below_step HX.out HB3.out) HB4.out) N6.out) HB5.out, blk_below D1.out HB5.out, blk_below D6.out HB5.out, .slice none 0 0, blk_below D5.out HB5.out, Kd.R_nil _ _ _ _ _, fun _ => rfl⟩
    have hcall := impl_BestTour.run k w g1 g5 g6 A0 c0 l0 HR0.out HC0.out HL.out.2 HG.out (l0.length - 1) [0] [] 0 A1 c1 w5 (by simp) (by have := HL.out.1; simp; omega) (Kd.R_reads' HO.out).2.1 (Kd.C_kept_own (Kd.R_bound HO.out) (fun k_ h_ hk_ => by have h1 := h_.2.1; have h5 := blk_lt D5.out; have h6 := blk_lt D6.out; rcases hk_ with rfl | rfl <;> omega)) hS0 _ HV.out
    go_at_call 47
    refine hcall.mono ?_
    clear hcall hS0
    rintro e w6 ⟨rfl, hS, hK⟩
    obtain ⟨hB, _, s6, ub, s5, sR, sN⟩ := hS
    obtain ⟨Ab, cb, rfl⟩ := Kd.R_slice sR
    have HB := Aside0.mk hB
    have SR := Aside0.mk sR
    have k5 : w6.cell? ⟨g5, 0, none⟩ = some (.slice Ab s1.length cb) := (blk_cell s5 0).trans rfl
    have k6 : w6.cell? ⟨g6, 0, none⟩ = some (.int .i64 s2) := (blk_cell s6 0).trans rfl
    clear hB sR sN s5 s6 hK
    go_wp2_with fail
    refine start_ (n := 5) (S := fun w' => w'.cell? ⟨g5, 0, none⟩ = some (.slice Ab s1.length cb) ∧ w'.cell? ⟨g6, 0, none⟩ = some (.int .i64 s2)) (ds := []) #[false, false, false, false, false] (by kernel_rfl) rfl rfl ⟨k5, k6⟩ (fun hHeld => ?_)
    refine take_ (i := 0) (N := some 15) (v := ?_) (a' := ?_) #[true, false, false, false, false] rfl rfl (by kernel_rfl) (fun _ _ _ h => h) (Or.inl ⟨by rfl, ?_⟩) hHeld ?_ ?_
    rotate_left
    · rintro w' ⟨s0, s1⟩
      go_simp
      with_reducible rfl
    rotate_left
    · simp only [Act.put, List.setIfInBounds_toArray, List.set_cons_zero, List.set_cons_succ, i64_w, i32_w]
      rfl
    refine pure_ (i := 2) (N := some 2) (v := ?_) (a' := ?_) #[true, false, true, false, false] rfl rfl (by kernel_rfl) (fun _ _ _ h => h) (Or.inl ⟨by rfl, ?_⟩) ?_ ?_
    rotate_left
    · intro w'
      go_simp
      with_reducible rfl
    rotate_left
    · simp only [Act.put, List.setIfInBounds_toArray, List.set_cons_zero, List.set_cons_succ, i64_w, i32_w]
      rfl
    refine take_ (i := 1) (N := some 16) (v := ?_) (a' := ?_) #[true, true, true, false, false] rfl rfl (by kernel_rfl) (fun _ _ _ h => h) (Or.inl ⟨by rfl, ?_⟩) hHeld ?_ ?_
    rotate_left
    · rintro w' ⟨s0, s1⟩
      go_simp
      with_reducible rfl
    rotate_left
    · simp only [Act.put, List.setIfInBounds_toArray, List.set_cons_zero, List.set_cons_succ, i64_w, i32_w]
      rfl
    refine pure_ (i := 3) (N := some 3) (v := ?_) (a' := ?_) #[true, true, true, true, false] rfl rfl (by kernel_rfl) (fun _ _ _ h => h) (Or.inl ⟨by rfl, ?_⟩) ?_ ?_
    rotate_left
    · intro w'
      go_simp
      with_reducible rfl
    rotate_left
    · simp only [Act.put, List.setIfInBounds_toArray, List.set_cons_zero, List.set_cons_succ, i64_w, i32_w]
      rfl
    refine pure_ (i := 4) (N := some 4) (v := ?_) (a' := ?_) #[true, true, true, true, true] rfl rfl (by kernel_rfl) (fun _ _ _ h => h) (Or.inl ⟨by rfl, ?_⟩) ?_ ?_
    rotate_left
    · intro w'
      go_simp
      with_reducible rfl
    rotate_left
    · simp only [Act.put, List.setIfInBounds_toArray, List.set_cons_zero, List.set_cons_succ, i64_w, i32_w]
      rfl
    refine done_ (by kernel_rfl) ?_
    go_wp2_with fail
    go_ret3
    exact ⟨_, rfl, Kd.R_mono (by repeat (first | exact SR.out | apply Kd.R_drewN | apply Kd.R_drew)) (fun _ _ => trivial), by repeat (first | exact HB.out | apply pw_below_drewN | apply below_drew1)⟩

end Go.Proofs.Ytcbjfnkeieeecaa.GLBestTour
