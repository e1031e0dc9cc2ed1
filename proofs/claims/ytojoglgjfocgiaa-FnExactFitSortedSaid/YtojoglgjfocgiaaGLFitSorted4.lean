-- Written by a program of this session (gprint.py), over the kit's print: not trusted: Lean checks it.
import Derived.Test.YtojoglgjfocgiaaGLFitSorted0
import Derived.Test.YtojoglgjfocgiaaGLFitSorted2
import Derived.Test.YtojoglgjfocgiaaGLFitSorted3
namespace Go.Proofs.Ytojoglgjfocgiaa.GLFitSorted
open Go.RowKit Go.Proofs.YtojoglgjfocgiaaW.PrintWords Go.Proofs.YtojoglgjfocgiaaW.PrintLast Go.Proofs.YtojoglgjfocgiaaW.PrintMore Go.Proofs.YtojoglgjfocgiaaW.PrintOwn
attribute [local go_sem] max2_int min2_int max_two min_two max_three min_three max_four min_four   -- for this text's walks alone
set_option linter.unusedVariables false
set_option linter.unusedSimpArgs false

/-! ### spec_l3Rank: function 44 -/
mutual
def spec_l3Rank.l0 : Nat → List Int → List Int → List Int → Int → Int → Option (List Int)
  | 0, _, _, _, _, _ => none
  | k + 1, x0, x3, x8, x9, x10 => if x10 < x9 then (if 0 ≤ x10 then (if x10 < (x8.length : Int) then (spec_l3Rank.l1 k x0 x3 x10 (rd x8 x10) 0 x8 x9 x10) else (none)) else (none)) else (some x3)
def spec_l3Rank.l1 : Nat → List Int → List Int → Int → Int → Int → List Int → Int → Int → Option (List Int)
  | 0, _, _, _, _, _, _, _, _ => none
  | k + 1, x0, x3, x4, x5, x6, x8, x9, x10 => if x6 < (x3.length : Int) then (if 0 ≤ x6 then (if 0 ≤ (rd x3 x6) then (if (rd x3 x6) < (x0.length : Int) then (if (rd x0 (rd x3 x6)) ≥ x5 then (spec_l3Rank.l1 k x0 x3 x4 x5 (wrap64 (x6 + 1)) x8 x9 x10) else ((some (([] : List Int) : List Int)).bind fun y181 => (if x6 ≤ (x3.length : Int) then ((some (x3.take (x6 : Int).toNat : List Int)).bind fun y184 => (if y181.length + y184.length < 17592186044416 then ((some (y181 ++ y184 : List Int)).bind fun y188 => (if y188.length < 17592186044416 then ((some (y188 ++ [x4] : List Int)).bind fun y191 => ((some (x3.drop (x6 : Int).toNat : List Int)).bind fun y194 => (if y191.length + y194.length < 17592186044416 then (spec_l3Rank.l0 k x0 (y191 ++ y194) x8 x9 (wrap64 (x10 + 1))) else (none)))) else (none))) else (none))) else (none)))) else (none)) else (none)) else (none)) else ((some (([] : List Int) : List Int)).bind fun y201 => (if 0 ≤ x6 then (if x6 ≤ (x3.length : Int) then ((some (x3.take (x6 : Int).toNat : List Int)).bind fun y204 => (if y201.length + y204.length < 17592186044416 then ((some (y201 ++ y204 : List Int)).bind fun y208 => (if y208.length < 17592186044416 then ((some (y208 ++ [x4] : List Int)).bind fun y211 => ((some (x3.drop (x6 : Int).toNat : List Int)).bind fun y214 => (if y211.length + y214.length < 17592186044416 then (spec_l3Rank.l0 k x0 (y211 ++ y214) x8 x9 (wrap64 (x10 + 1))) else (none)))) else (none))) else (none))) else (none)) else (none)))
end
def spec_l3Rank.f (k : Nat) (l0 : List Int) : Option (List Int) := spec_l3Rank.l0 k l0 ([] : List Int) l0 (l0.length : Int) 0
theorem spec_l3Rank.mono_l : ∀ k, (∀ y0 y1 y2 y3 y4, LeO (spec_l3Rank.l0 k y0 y1 y2 y3 y4) (spec_l3Rank.l0 (k + 1) y0 y1 y2 y3 y4)) ∧ (∀ y0 y1 y2 y3 y4 y5 y6 y7, LeO (spec_l3Rank.l1 k y0 y1 y2 y3 y4 y5 y6 y7) (spec_l3Rank.l1 (k + 1) y0 y1 y2 y3 y4 y5 y6 y7))
  | 0 => ⟨fun _ _ _ _ _ r h => by simp [spec_l3Rank.l0] at h, fun _ _ _ _ _ _ _ _ r h => by simp [spec_l3Rank.l1] at h⟩
  | k + 1 => by
    obtain ⟨ih0, ih1⟩ := spec_l3Rank.mono_l k
    refine ⟨?_, ?_⟩
    · intro y0 y1 y2 y3 y4
      unfold spec_l3Rank.l0
      repeat' first
      | (with_reducible exact ih0 _ _ _ _ _)
      | (with_reducible exact ih1 _ _ _ _ _ _ _ _)
      | (with_reducible exact LeO.refl _)
      | (with_reducible exact LeO.none _)
      | (with_reducible refine LeO.ite ?_ ?_)
      | (with_reducible refine LeO.bind ?_ (fun _ => ?_))
      | exact ih0 _ _ _ _ _
      | exact ih1 _ _ _ _ _ _ _ _
      | exact LeO.none _
      | refine LeO.ite ?_ ?_
      | refine LeO.bind ?_ (fun _ => ?_)
    · intro y0 y1 y2 y3 y4 y5 y6 y7
      unfold spec_l3Rank.l1
      repeat' first
      | (with_reducible exact ih0 _ _ _ _ _)
      | (with_reducible exact ih1 _ _ _ _ _ _ _ _)
      | (with_reducible exact LeO.refl _)
      | (with_reducible exact LeO.none _)
      | (with_reducible refine LeO.ite ?_ ?_)
      | (with_reducible refine LeO.bind ?_ (fun _ => ?_))
      | exact ih0 _ _ _ _ _
      | exact ih1 _ _ _ _ _ _ _ _
      | exact LeO.none _
      | refine LeO.ite ?_ ?_
      | refine LeO.bind ?_ (fun _ => ?_)
theorem spec_l3Rank.mono : ∀ a0 k, LeO (spec_l3Rank.f k a0) (spec_l3Rank.f (k + 1) a0) := by
  intro a0 k
  obtain ⟨ih0, ih1⟩ := spec_l3Rank.mono_l k
  unfold spec_l3Rank.f
  repeat' first
      | (with_reducible exact ih0 _ _ _ _ _)
      | (with_reducible exact ih1 _ _ _ _ _ _ _ _)
      | (with_reducible exact LeO.refl _)
      | (with_reducible exact LeO.none _)
      | (with_reducible refine LeO.ite ?_ ?_)
      | (with_reducible refine LeO.bind ?_ (fun _ => ?_))
      | exact ih0 _ _ _ _ _
      | exact ih1 _ _ _ _ _ _ _ _
      | exact LeO.none _
      | refine LeO.ite ?_ ?_
      | refine LeO.bind ?_ (fun _ => ?_)
set_option maxHeartbeats 8000000 in
set_option maxRecDepth 100000 in
theorem spec_l3Rank.calls (k : Nat) (A0 : Option Addr) (c0 : Nat) (l0 : List Int) (r : List Int) (w : World) (hr0 : Kd.C (Kd.int .i64) w A0 l0.length l0) (hc0 : l0.length ≤ c0) (h : spec_l3Rank.f k l0 = some r) :
    Calls Try.prog 44 #[.slice A0 l0.length c0] w fun e w' => ∃ v0_ : Value, e = .returned (v0_) ∧ Kd.R (Kd.int .i64) 3 w' w.heap.size (fun _ => True) v0_ r ∧ Below w.heap.size w w' := by
  have HR0 := Aside0.mk hr0
  have HC0 := Aside0.mk hc0
  clear hr0 hc0
  have HB := Aside0.mk (Below.refl w.heap.size w)
  have H : (spec_l3Rank.l0 k l0 ([] : List Int) l0 (l0.length : Int) 0) = some r := h
  clear h
  have H' := Aside0.mk H
  clear H
  go_enter Try.func44, Try.ntmps44
  go_wp2
  go_loopg [3, 10] k (fun kq v3 v10 w' => ∃ (x3_1 : List Int) (x10_1 : Int), v10 = .int .i64 x10_1 ∧ Aside0 (spec_l3Rank.l0 kq l0 x3_1 l0 (l0.length : Int) x10_1 = some r) ∧ Aside0 (kq ≤ k) ∧ Aside0 (Kd.R (Kd.int .i64) 3 w' w.heap.size (fun _ => True) v3 x3_1) ∧ Aside0 (Below w.heap.size w w'))
  case atStart => exact ⟨(([] : List Int)), (0), (by first | rfl | (simp; done) | (simp [*]; done)), H', ⟨Nat.le_refl _⟩, ⟨by first | exact Kd.R_nil _ _ _ _ _ | exact Kd.N_nil _ _ _ _ _ | exact Kd.V_nil _ _ _ _ _ | exact Kd.Q_nil _ _ _ _ _ | exact Kd.S_nil _ _ _ _ _⟩, ⟨by repeat (first | (with_reducible first | exact HB.out | apply below_alloc | apply pw_below_drewN | apply below_drew1) | exact HB.out)⟩⟩
  case round =>
    clear H'
    obtain ⟨x3_1, x10_1, rfl, HA, HK1, HO_3, HB⟩ := hrel
    cases gk with
    | zero => exact absurd HA.out (by simp [spec_l3Rank.l0])
    | succ k1 =>
      have H := HA.out
      clear HA
      simp only [spec_l3Rank.l0] at H
      by_cases c2 : x10_1 < (l0.length : Int)
      · rw [if_pos c2] at H
        have c2b0 : decide (x10_1 < (l0.length : Int)) = true := decide_eq_true c2
        clear c2
        by_cases c3 : 0 ≤ x10_1
        · rw [if_pos c3] at H
          have c3b0 : decide (0 ≤ x10_1) = true := decide_eq_true c3
          clear c3
          by_cases c4 : x10_1 < (l0.length : Int)
          · rw [if_pos c4] at H
            have c4b0 : decide (x10_1 < (l0.length : Int)) = true := decide_eq_true c4
            clear c4
            have H' := Aside0.mk H
            clear H
            have p178 : 0 ≤ (x10_1 : Int) := of_decide_eq_true (by first | (with_reducible assumption) | assumption)
            have q178 : x10_1 < (l0.length : Int) := of_decide_eq_true (by first | (with_reducible assumption) | assumption)
            obtain ⟨ad178, e178, hx178_0⟩ := Kd.at_int HR0.out x10_1 p178 q178
            cases e178
            replace hx178_0 := (HB.out.cell (World.block_lt_of_cell? w _ hx178_0)).trans hx178_0
            replace p178 := eq_true p178
            replace q178 := eq_true q178
            go_wp2
            go_loopg [6] k1 (fun kq v6 w' => ∃ (x6_2 : Int), v6 = .int .i64 x6_2 ∧ Aside0 (spec_l3Rank.l1 kq l0 x3_1 x10_1 (rd l0 x10_1) x6_2 l0 (l0.length : Int) x10_1 = some r) ∧ Aside0 (kq ≤ k1) ∧ Aside0 (Kd.R (Kd.int .i64) 3 w' w.heap.size (fun _ => True) u3 x3_1) ∧ Aside0 (Below w.heap.size w w'))
            case atStart => exact ⟨(0), (by first | rfl | (simp; done) | (simp [*]; done)), H', ⟨Nat.le_refl _⟩, ⟨by (with_reducible repeat (first | apply Kd.R_alloc | apply Kd.R_drewN | apply Kd.R_drew)); exact HO_3.out⟩, ⟨by repeat (first | (with_reducible first | exact HB.out | apply below_alloc | apply pw_below_drewN | apply below_drew1) | exact HB.out)⟩⟩
            case round =>
              clear H'
              try clear p1
              try clear q1
              try clear hx1
              try clear c2
              try clear c2b0
              try clear p2
              try clear c3
              try clear c3b0
              try clear c4
              try clear c4b0
              try clear hx178_0
              try clear p178
              try clear q178
              obtain ⟨x6_2, rfl, HA, HK2, HO_3, HB⟩ := hrel
              cases gk with
              | zero => exact absurd HA.out (by simp [spec_l3Rank.l1])
              | succ k2 =>
                have H := HA.out
                clear HA
                simp only [spec_l3Rank.l1] at H
                by_cases c5 : x6_2 < (x3_1.length : Int)
                · rw [if_pos c5] at H
                  have c5b0 : decide (x6_2 < (x3_1.length : Int)) = true := decide_eq_true c5
                  clear c5
                  by_cases c6 : 0 ≤ x6_2
                  · rw [if_pos c6] at H
                    have c6b0 : decide (0 ≤ x6_2) = true := decide_eq_true c6
                    clear c6
                    by_cases c7 : 0 ≤ (rd x3_1 x6_2)
                    · rw [if_pos c7] at H
                      have c7b0 : decide (0 ≤ (rd x3_1 x6_2)) = true := decide_eq_true c7
                      clear c7
                      by_cases c8 : (rd x3_1 x6_2) < (l0.length : Int)
                      · rw [if_pos c8] at H
                        have c8b0 : decide ((rd x3_1 x6_2) < (l0.length : Int)) = true := decide_eq_true c8
                        clear c8
                        by_cases c9 : (rd l0 (rd x3_1 x6_2)) ≥ (rd l0 x10_1)
                        · rw [if_pos c9] at H
                          have c9b0 : decide ((rd l0 x10_1) ≤ (rd l0 (rd x3_1 x6_2))) = true := decide_eq_true c9
                          clear c9
                          have H' := Aside0.mk H
                          clear H
                          obtain ⟨Ao10, co10, eo10⟩ := Kd.R_slice HO_3.out
                          subst eo10
                          have p179 : 0 ≤ (x6_2 : Int) := of_decide_eq_true (by first | (with_reducible assumption) | assumption)
                          have q179 : x6_2 < (x3_1.length : Int) := of_decide_eq_true (by first | (with_reducible assumption) | assumption)
                          obtain ⟨ad179, e179, hx179_0⟩ := Kd.at_int (Kd.R_reads' HO_3.out).2.2 x6_2 p179 q179
                          cases e179
                          replace p179 := eq_true p179
                          replace q179 := eq_true q179
                          have p180 : 0 ≤ ((rd x3_1 x6_2) : Int) := of_decide_eq_true (by first | (with_reducible assumption) | assumption)
                          have q180 : (rd x3_1 x6_2) < (l0.length : Int) := of_decide_eq_true (by first | (with_reducible assumption) | assumption)
                          obtain ⟨ad180, e180, hx180_0⟩ := Kd.at_int HR0.out (rd x3_1 x6_2) p180 q180
                          obtain rfl : ad178 = ad180 := (by injection e180)
                          replace hx180_0 := (HB.out.cell (World.block_lt_of_cell? w _ hx180_0)).trans hx180_0
                          replace p180 := eq_true p180
                          replace q180 := eq_true q180
                          go_wp2
                          go_roundg k2
                          case measure => have := HK1.out; have := HK2.out; omega
                          case rel => exact ⟨(wrap64 (x6_2 + 1)), (by first | rfl | (simp; done) | (simp [*]; done)), H', ⟨by have := HK1.out; have := HK2.out; omega⟩, ⟨by (with_reducible repeat (first | apply Kd.R_alloc | apply Kd.R_drewN | apply Kd.R_drew)); exact HO_3.out⟩, ⟨by repeat (first | (with_reducible first | exact HB.out | apply below_alloc | apply pw_below_drewN | apply below_drew1) | exact HB.out)⟩⟩
                        · rw [if_neg c9] at H
                          have c9b0 : decide ((rd l0 x10_1) ≤ (rd l0 (rd x3_1 x6_2))) = false := decide_eq_false c9
                          clear c9
                          obtain ⟨y181, hy181⟩ : ∃ y_ : List Int, y_ = (([] : List Int)) := ⟨_, rfl⟩
                          replace H : (if x6_2 ≤ (x3_1.length : Int) then ((some (x3_1.take (x6_2 : Int).toNat : List Int)).bind fun y184 => (if y181.length + y184.length < 17592186044416 then ((some (y181 ++ y184 : List Int)).bind fun y188 => (if y188.length < 17592186044416 then ((some (y188 ++ [x10_1] : List Int)).bind fun y191 => ((some (x3_1.drop (x6_2 : Int).toNat : List Int)).bind fun y194 => (if y191.length + y194.length < 17592186044416 then (spec_l3Rank.l0 k2 l0 (y191 ++ y194) l0 (l0.length : Int) (wrap64 (x10_1 + 1))) else (none)))) else (none))) else (none))) else (none)) = some r := by first | (rw [hy181]; with_reducible exact H) | (have H2_ := (Option.bind_some _ _).symm.trans H; rw [hy181]; with_reducible exact H2_) | (have H2_ := (Option.bind_some _ _).symm.trans H; with_reducible exact H2_) | with_reducible exact H | (rw [hy181]; exact H) | exact H
                          have Ny181 := Aside0.mk hy181
                          clear hy181
                          have c11b0 := eq_true (of_decide_eq_true (by first | (with_reducible assumption) | assumption) : 0 ≤ x6_2)
                          by_cases c12 : x6_2 ≤ (x3_1.length : Int)
                          · rw [if_pos c12] at H
                            have c12b0 := eq_true c12
                            have c12b1 : decide (x6_2 ≤ (x3_1.length : Int)) = true := decide_eq_true c12
                            clear c12
                            obtain ⟨y184, hy184⟩ : ∃ y_ : List Int, y_ = (x3_1.take (x6_2 : Int).toNat) := ⟨_, rfl⟩
                            replace H : (if y181.length + y184.length < 17592186044416 then ((some (y181 ++ y184 : List Int)).bind fun y188 => (if y188.length < 17592186044416 then ((some (y188 ++ [x10_1] : List Int)).bind fun y191 => ((some (x3_1.drop (x6_2 : Int).toNat : List Int)).bind fun y194 => (if y191.length + y194.length < 17592186044416 then (spec_l3Rank.l0 k2 l0 (y191 ++ y194) l0 (l0.length : Int) (wrap64 (x10_1 + 1))) else (none)))) else (none))) else (none)) = some r := by first | (rw [hy184]; with_reducible exact H) | (have H2_ := (Option.bind_some _ _).symm.trans H; rw [hy184]; with_reducible exact H2_) | (have H2_ := (Option.bind_some _ _).symm.trans H; with_reducible exact H2_) | with_reducible exact H | (rw [hy184]; exact H) | exact H
                            have Ny184 := Aside0.mk hy184
                            clear hy184
                            by_cases c13 : y181.length + y184.length < 17592186044416
                            · rw [if_pos c13] at H
                              have LMc13 := Aside0.mk c13
                              clear c13
                              obtain ⟨y188, hy188⟩ : ∃ y_ : List Int, y_ = (y181 ++ y184) := ⟨_, rfl⟩
                              replace H : (if y188.length < 17592186044416 then ((some (y188 ++ [x10_1] : List Int)).bind fun y191 => ((some (x3_1.drop (x6_2 : Int).toNat : List Int)).bind fun y194 => (if y191.length + y194.length < 17592186044416 then (spec_l3Rank.l0 k2 l0 (y191 ++ y194) l0 (l0.length : Int) (wrap64 (x10_1 + 1))) else (none)))) else (none)) = some r := by first | (rw [hy188]; with_reducible exact H) | (have H2_ := (Option.bind_some _ _).symm.trans H; rw [hy188]; with_reducible exact H2_) | (have H2_ := (Option.bind_some _ _).symm.trans H; with_reducible exact H2_) | with_reducible exact H | (rw [hy188]; exact H) | exact H
                              have Ny188 := Aside0.mk hy188
                              clear hy188
                              by_cases c14 : y188.length < 17592186044416
                              · rw [if_pos c14] at H
                                have LMc14 := Aside0.mk c14
                                clear c14
                                obtain ⟨y191, hy191⟩ : ∃ y_ : List Int, y_ = (y188 ++ [x10_1]) := ⟨_, rfl⟩
                                replace H : ((some (x3_1.drop (x6_2 : Int).toNat : List Int)).bind fun y194 => (if y191.length + y194.length < 17592186044416 then (spec_l3Rank.l0 k2 l0 (y191 ++ y194) l0 (l0.length : Int) (wrap64 (x10_1 + 1))) else (none))) = some r := by first | (rw [hy191]; with_reducible exact H) | (have H2_ := (Option.bind_some _ _).symm.trans H; rw [hy191]; with_reducible exact H2_) | (have H2_ := (Option.bind_some _ _).symm.trans H; with_reducible exact H2_) | with_reducible exact H | (rw [hy191]; exact H) | exact H
                                have Ny191 := Aside0.mk hy191
                                clear hy191
                                have c15b0 := eq_true (of_decide_eq_true (by first | (with_reducible assumption) | assumption) : 0 ≤ x6_2)
                                have c16b0 := eq_true (of_decide_eq_true (by first | (with_reducible assumption) | assumption) : x6_2 ≤ (x3_1.length : Int))
                                obtain ⟨y194, hy194⟩ : ∃ y_ : List Int, y_ = (x3_1.drop (x6_2 : Int).toNat) := ⟨_, rfl⟩
                                replace H : (if y191.length + y194.length < 17592186044416 then (spec_l3Rank.l0 k2 l0 (y191 ++ y194) l0 (l0.length : Int) (wrap64 (x10_1 + 1))) else (none)) = some r := by first | (rw [hy194]; with_reducible exact H) | (have H2_ := (Option.bind_some _ _).symm.trans H; rw [hy194]; with_reducible exact H2_) | (have H2_ := (Option.bind_some _ _).symm.trans H; with_reducible exact H2_) | with_reducible exact H | (rw [hy194]; exact H) | exact H
                                have Ny194 := Aside0.mk hy194
                                clear hy194
                                by_cases c17 : y191.length + y194.length < 17592186044416
                                · rw [if_pos c17] at H
                                  have LMc17 := Aside0.mk c17
                                  clear c17
                                  obtain ⟨y198, hy198⟩ : ∃ y_ : List Int, y_ = (y191 ++ y194) := ⟨_, rfl⟩
                                  replace H : (spec_l3Rank.l0 k2 l0 y198 l0 (l0.length : Int) (wrap64 (x10_1 + 1))) = some r := by first | (rw [hy198]; with_reducible exact H) | (have H2_ := (Option.bind_some _ _).symm.trans H; rw [hy198]; with_reducible exact H2_) | (have H2_ := (Option.bind_some _ _).symm.trans H; with_reducible exact H2_) | with_reducible exact H | (rw [hy198]; exact H) | exact H
                                  have Ny198 := Aside0.mk hy198
                                  clear hy198
                                  have H' := Aside0.mk H
                                  clear H
                                  obtain ⟨Ao18, co18, eo18⟩ := Kd.R_slice HO_3.out
                                  subst eo18
                                  have p179 : 0 ≤ (x6_2 : Int) := of_decide_eq_true (by first | (with_reducible assumption) | assumption)
                                  have q179 : x6_2 < (x3_1.length : Int) := of_decide_eq_true (by first | (with_reducible assumption) | assumption)
                                  obtain ⟨ad179, e179, hx179_0⟩ := Kd.at_int (Kd.R_reads' HO_3.out).2.2 x6_2 p179 q179
                                  cases e179
                                  replace p179 := eq_true p179
                                  replace q179 := eq_true q179
                                  have p180 : 0 ≤ ((rd x3_1 x6_2) : Int) := of_decide_eq_true (by first | (with_reducible assumption) | assumption)
                                  have q180 : (rd x3_1 x6_2) < (l0.length : Int) := of_decide_eq_true (by first | (with_reducible assumption) | assumption)
                                  obtain ⟨ad180, e180, hx180_0⟩ := Kd.at_int HR0.out (rd x3_1 x6_2) p180 q180
                                  obtain rfl : ad178 = ad180 := (by injection e180)
                                  replace hx180_0 := (HB.out.cell (World.block_lt_of_cell? w _ hx180_0)).trans hx180_0
                                  replace p180 := eq_true p180
                                  replace q180 := eq_true q180
                                  go_wp2_with (first | ((with_reducible refine gate_dst (N := 32) rfl ?_); refine Kd.R_lit (Kd.int .i64) _ 3 ?hg (N := 32) ?hd (xs := ([] : List Int)) (inner := []) (ok := fun _ => True) (okp := fun _ => True) ?hr ?hp (fun _ hk => hk) trivial (Below.refl _ _) (Nat.le_refl _) (by simp) ?_; (case hd => rfl); (case hg => rfl); (case hr => first | (go_simp; done) | (go_simp; rfl)); (case hp => exact (Reps.none _ _)); intro v182 w19 ho20 hb hg_ hnew_; clear hg_ hnew_; (first | rw [← Ny181.out] at ho20 | (simp only [Int.reduceToNat] at ho20; rw [← Ny181.out] at ho20)); have n0_ := Aside0.mk (Kd.R_elder' (by (with_reducible repeat (first | apply Kd.R_alloc | apply Kd.R_drewN | apply Kd.R_drew)); exact HO_3.out) (Kd.R_base ho20) hb); have n1_ := Aside0.mk (Kd.R_lower (Kd.R_new' ho20 (Kd.R_lt (by (with_reducible repeat (first | apply Kd.R_alloc | apply Kd.R_drewN | apply Kd.R_drew)); exact HO_3.out))) (below_size (by repeat (first | (with_reducible first | exact HB.out | apply below_alloc | apply pw_below_drewN | apply below_drew1) | exact HB.out)))); have n2_ := Aside0.mk (below_step (by repeat (first | (with_reducible first | exact HB.out | apply below_alloc | apply pw_below_drewN | apply below_drew1) | exact HB.out)) hb); clear HO_3; clear HB; have HO_3 := n0_; have HO183 := n1_; have HB := n2_; clear n0_ n1_ n2_; clear hb ho20; have q21 : (x6_2 : Int) ≤ ((x3_1.length : Int) : Int) := of_decide_eq_true (by first | (with_reducible assumption) | assumption); obtain ⟨i021, hi021, _, hsz21, _⟩ := info_parts info3; have hroom21 : x3_1.length ≤ co18 := (Kd.R_reads' HO_3.out).2.1; have hC21 : Kd.C (Kd.int .i64) _ (some ad179) x3_1.length x3_1 := (Kd.R_reads' HO_3.out).2.2; have hcut21 := cut_to (P := Try.prog) 22 3 .i64 Try.underlying22 hi021 (some ad179) x3_1.length co18 x6_2 (of_decide_eq_true (by first | (with_reducible assumption) | assumption)) q21 hroom21; have hr21 := Kd.C_take (m := (x6_2 : Int).toNat) hC21 (by omega); have hy21 : y184.length = (x6_2 : Int).toNat := (by rw [Ny184.out, List.length_take]; omega); rw [← Ny184.out] at hr21; rw [← hy21] at hcut21; have HR187 := Aside0.mk hr21; have HC187 := Aside0.mk (show y184.length ≤ co18 from by omega); clear hr21 hC21 hroom21 hi021 hsz21; have KY21 := Aside0.mk hy21; clear hy21; have KL21 := Aside0.mk (show (x6_2 : Int).toNat ≤ x3_1.length from by omega); replace q21 := eq_true q21) | ((with_reducible refine gate_builtin (b := .append) (xs := #[.tmp 32, .tmp 35]) rfl ?_); at_builtin; refine Kd.R_append_rows (Kd.int .i64) (w0 := w) w.heap.size rfl (.tmp 32) (.tmp 35) 22 3 (.int .i64 0) 8 rfl Try.underlying22 info3 rfl (by decide) (by omega) v182 y181 y184 _ _ _ (fun k_ => some k_ ≠ (.slice (some ad179) x3_1.length co18 : Value).ownBlock) (fun _ => False) rfl rfl ?aO ?aR (fun _ _ h => h) (fun _ h => h.elim) ?aF ?aB ?aS ?aL ?_; (case aR => repeat (first | exact (by repeat (first | (with_reducible exact HR187.out) | (with_reducible refine Kd.C_alloc ?_ _) | (with_reducible refine Kd.C_drewN ?_ _) | (with_reducible refine Kd.C_drew ?_) | exact HR187.out)) | (with_reducible refine Kd.C_alloc ?_ _) | (with_reducible refine Kd.C_drewN ?_ _) | (with_reducible refine Kd.C_drew ?_))); (case aB => exact (by repeat (first | (with_reducible first | exact HB.out | apply below_alloc | apply pw_below_drewN | apply below_drew1) | exact HB.out))); (case aF => exact (fun k_ hk => Kd.fresh' (Kd.R_lt (by (with_reducible repeat (first | apply Kd.R_alloc | apply Kd.R_drewN | apply Kd.R_drew)); exact HO_3.out)) k_ hk)); (case aO => exact (by (with_reducible repeat (first | apply Kd.R_alloc | apply Kd.R_drewN | apply Kd.R_drew)); exact Kd.R_mono HO183.out (fun _ hk => hk.2))); (case aS => exact (below_size (by repeat (first | (with_reducible first | exact HB.out | apply below_alloc | apply pw_below_drewN | apply below_drew1) | exact HB.out)))); (case aL => have := LMc13.out; omega); intro v189 w22 ho hb hg hat; rw [← Ny188.out] at ho; have n0_ := Aside0.mk (Kd.R_after (ok := (fun _ => True)) (by (with_reducible repeat (first | apply Kd.R_alloc | apply Kd.R_drewN | apply Kd.R_drew)); exact HO_3.out) hg hat); have n1_ := Aside0.mk (hb); have n2_ := Aside0.mk ((show Kd.C (Kd.int .i64) w22 (some ad179) y184.length y184 from by rw [Ny184.out]; exact Kd.C_take (m := (x6_2 : Int).toNat) ((Kd.R_reads' (Kd.R_after (ok := (fun _ => True)) (by (with_reducible repeat (first | apply Kd.R_alloc | apply Kd.R_drewN | apply Kd.R_drew)); exact HO_3.out) hg hat)).2.2) KL21.out)); have n3_ := Aside0.mk (ho); clear HO_3; clear HB; clear HR187; clear HO183; have HO_3 := n0_; have HB := n1_; have HR187 := n2_; have HO190 := n3_; clear n0_ n1_ n2_ n3_; clear ho hb hg hat) | ((with_reducible refine gate_builtin (b := .append) (xs := #[.tmp 37, .tmp 39]) rfl ?_); at_builtin; refine Kd.R_append (Kd.int .i64) (w0 := w) w.heap.size rfl (.tmp 37) (.tmp 39) 22 3 (.int .i64 0) 8 rfl Try.underlying22 info3 rfl (by decide) (by omega) v189 y188 x10_1 [.int .i64 x10_1] (fun k_ => some k_ ≠ (.slice (some ad179) x3_1.length co18 : Value).ownBlock) (fun _ => False) rfl rfl ?aP (fun _ hk => hk.elim) ?aF ?aO ?aB ?aS ?aL ?_; (case aP => exact rfl); (case aB => exact (by repeat (first | (with_reducible first | exact HB.out | apply below_alloc | apply pw_below_drewN | apply below_drew1) | exact HB.out))); (case aF => exact (fun k_ hk => Kd.fresh' (Kd.R_lt (by (with_reducible repeat (first | apply Kd.R_alloc | apply Kd.R_drewN | apply Kd.R_drew)); exact HO_3.out)) k_ hk)); (case aO => exact (by (with_reducible repeat (first | apply Kd.R_alloc | apply Kd.R_drewN | apply Kd.R_drew)); exact HO190.out)); (case aS => exact (below_size (by repeat (first | (with_reducible first | exact HB.out | apply below_alloc | apply pw_below_drewN | apply below_drew1) | exact HB.out)))); (case aL => have := LMc14.out; omega); intro v192 w23 ho hb hg hat; rw [← Ny191.out] at ho; have n0_ := Aside0.mk (Kd.R_after (ok := (fun _ => True)) (by (with_reducible repeat (first | apply Kd.R_alloc | apply Kd.R_drewN | apply Kd.R_drew)); exact HO_3.out) hg hat); have n1_ := Aside0.mk (hb); have n2_ := Aside0.mk ((show Kd.C (Kd.int .i64) w23 (some ad179) y184.length y184 from by rw [Ny184.out]; exact Kd.C_take (m := (x6_2 : Int).toNat) ((Kd.R_reads' (Kd.R_after (ok := (fun _ => True)) (by (with_reducible repeat (first | apply Kd.R_alloc | apply Kd.R_drewN | apply Kd.R_drew)); exact HO_3.out) hg hat)).2.2) KL21.out)); have n3_ := Aside0.mk (ho); clear HO_3; clear HB; clear HR187; clear HO190; have HO_3 := n0_; have HB := n1_; have HR187 := n2_; have HO193 := n3_; clear n0_ n1_ n2_ n3_; clear ho hb hg hat; have q24 : (x6_2 : Int) ≤ ((x3_1.length : Int) : Int) := of_decide_eq_true (by first | (with_reducible assumption) | assumption); obtain ⟨i024, hi024, _, hsz24, _⟩ := info_parts info3; have hroom24 : x3_1.length ≤ co18 := (Kd.R_reads' HO_3.out).2.1; have hC24 : Kd.C (Kd.int .i64) _ (some ad179) x3_1.length x3_1 := (Kd.R_reads' HO_3.out).2.2; have q024 : (0 : Int) ≤ (x6_2 : Int) := of_decide_eq_true (by first | (with_reducible assumption) | assumption); have hcut24 := cut_from (P := Try.prog) 22 3 .i64 Try.underlying22 hi024 1 hsz24 (some ad179) x3_1.length co18 x6_2 q024 q24; have hr24 := Kd.C_drop (m := (x6_2 : Int).toNat) (c := co18) hC24 (by omega) hroom24; obtain ⟨A24, hA24⟩ : ∃ A1, A1 = (if co18 = (x6_2 : Int).toNat then (some ad179) else ((some ad179) : Option Addr).map (·.add ((x6_2 : Int).toNat * 1))) := ⟨_, rfl⟩; obtain ⟨c24, hc24⟩ : ∃ c1, c1 = co18 - (x6_2 : Int).toNat := ⟨_, rfl⟩; have hy24 : y194.length = x3_1.length - (x6_2 : Int).toNat := (by rw [Ny194.out, List.length_drop] <;> omega); rw [show (x3_1).drop (x6_2 : Int).toNat = y194 from Ny194.out.symm] at hr24; replace hr24 : Kd.C (Kd.int .i64) _ A24 y194.length y194 := (by rw [hA24]; exact hr24); rw [← hy24, ← hA24, ← hc24] at hcut24; have HR197 := Aside0.mk hr24; have HC197 := Aside0.mk (show y194.length ≤ c24 from by rw [hy24, hc24]; exact Nat.sub_le_sub_right hroom24 _); clear hr24 hC24 hroom24 hi024 hsz24 hc24; have KY24 := Aside0.mk hy24; have KA24 := Aside0.mk hA24; clear hy24 hA24; have KL24 := Aside0.mk (show (x6_2 : Int).toNat ≤ x3_1.length from by omega); replace q24 := eq_true q24) | ((with_reducible refine gate_builtin (b := .append) (xs := #[.tmp 41, .tmp 44]) rfl ?_); at_builtin; refine Kd.R_append_rows (Kd.int .i64) (w0 := w) w.heap.size rfl (.tmp 41) (.tmp 44) 22 3 (.int .i64 0) 8 rfl Try.underlying22 info3 rfl (by decide) (by omega) v192 y191 y194 _ _ _ (fun k_ => some k_ ≠ (.slice (some ad179) x3_1.length co18 : Value).ownBlock) (fun _ => False) rfl rfl ?aO ?aR (fun _ _ h => h) (fun _ h => h.elim) ?aF ?aB ?aS ?aL ?_; (case aR => repeat (first | exact (by repeat (first | (with_reducible exact HR197.out) | (with_reducible refine Kd.C_alloc ?_ _) | (with_reducible refine Kd.C_drewN ?_ _) | (with_reducible refine Kd.C_drew ?_) | exact HR197.out)) | (with_reducible refine Kd.C_alloc ?_ _) | (with_reducible refine Kd.C_drewN ?_ _) | (with_reducible refine Kd.C_drew ?_))); (case aB => exact (by repeat (first | (with_reducible first | exact HB.out | apply below_alloc | apply pw_below_drewN | apply below_drew1) | exact HB.out))); (case aF => exact (fun k_ hk => Kd.fresh' (Kd.R_lt (by (with_reducible repeat (first | apply Kd.R_alloc | apply Kd.R_drewN | apply Kd.R_drew)); exact HO_3.out)) k_ hk)); (case aO => exact (by (with_reducible repeat (first | apply Kd.R_alloc | apply Kd.R_drewN | apply Kd.R_drew)); exact HO193.out)); (case aS => exact (below_size (by repeat (first | (with_reducible first | exact HB.out | apply below_alloc | apply pw_below_drewN | apply below_drew1) | exact HB.out)))); (case aL => have := LMc17.out; omega); intro v199 w25 ho hb hg hat; rw [← Ny198.out] at ho; have n0_ := Aside0.mk (Kd.R_after (ok := (fun _ => True)) (by (with_reducible repeat (first | apply Kd.R_alloc | apply Kd.R_drewN | apply Kd.R_drew)); exact HO_3.out) hg hat); have n1_ := Aside0.mk (hb); have n2_ := Aside0.mk ((show Kd.C (Kd.int .i64) w25 (some ad179) y184.length y184 from by rw [Ny184.out]; exact Kd.C_take (m := (x6_2 : Int).toNat) ((Kd.R_reads' (Kd.R_after (ok := (fun _ => True)) (by (with_reducible repeat (first | apply Kd.R_alloc | apply Kd.R_drewN | apply Kd.R_drew)); exact HO_3.out) hg hat)).2.2) KL21.out)); have n3_ := Aside0.mk ((show Kd.C (Kd.int .i64) w25 A24 y194.length y194 from by rw [Ny194.out, KA24.out]; exact Kd.C_drop (m := (x6_2 : Int).toNat) (c := co18) ((Kd.R_reads' (Kd.R_after (ok := (fun _ => True)) (by (with_reducible repeat (first | apply Kd.R_alloc | apply Kd.R_drewN | apply Kd.R_drew)); exact HO_3.out) hg hat)).2.2) KL24.out ((Kd.R_reads' (Kd.R_after (ok := (fun _ => True)) (by (with_reducible repeat (first | apply Kd.R_alloc | apply Kd.R_drewN | apply Kd.R_drew)); exact HO_3.out) hg hat)).2.1))); have n4_ := Aside0.mk (ho); clear HO_3; clear HB; clear HR187; clear HR197; clear HO193; have HO_3 := n0_; have HB := n1_; have HR187 := n2_; have HR197 := n3_; have HO200 := n4_; clear n0_ n1_ n2_ n3_ n4_; clear ho hb hg hat))
                                  go_roundg k2
                                  case measure => have := HK1.out; have := HK2.out; omega
                                  case rel => exact ⟨(y198), (wrap64 (x10_1 + 1)), (by first | rfl | (simp; done) | (simp [*]; done)), H', ⟨by have := HK1.out; have := HK2.out; omega⟩, ⟨by (with_reducible repeat (first | apply Kd.R_alloc | apply Kd.R_drewN | apply Kd.R_drew)); exact Kd.R_mono HO200.out (fun _ hk => trivial)⟩, ⟨by repeat (first | (with_reducible first | exact HB.out | apply below_alloc | apply pw_below_drewN | apply below_drew1) | exact HB.out)⟩⟩
                                · rw [if_neg c17] at H
                                  exact absurd H (by simp)
                              · rw [if_neg c14] at H
                                exact absurd H (by simp)
                            · rw [if_neg c13] at H
                              exact absurd H (by simp)
                          · rw [if_neg c12] at H
                            exact absurd H (by simp)
                      · rw [if_neg c8] at H
                        exact absurd H (by simp)
                    · rw [if_neg c7] at H
                      exact absurd H (by simp)
                  · rw [if_neg c6] at H
                    exact absurd H (by simp)
                · rw [if_neg c5] at H
                  have c5b0 : decide (x6_2 < (x3_1.length : Int)) = false := decide_eq_false c5
                  clear c5
                  obtain ⟨y201, hy201⟩ : ∃ y_ : List Int, y_ = (([] : List Int)) := ⟨_, rfl⟩
                  replace H : (if 0 ≤ x6_2 then (if x6_2 ≤ (x3_1.length : Int) then ((some (x3_1.take (x6_2 : Int).toNat : List Int)).bind fun y204 => (if y201.length + y204.length < 17592186044416 then ((some (y201 ++ y204 : List Int)).bind fun y208 => (if y208.length < 17592186044416 then ((some (y208 ++ [x10_1] : List Int)).bind fun y211 => ((some (x3_1.drop (x6_2 : Int).toNat : List Int)).bind fun y214 => (if y211.length + y214.length < 17592186044416 then (spec_l3Rank.l0 k2 l0 (y211 ++ y214) l0 (l0.length : Int) (wrap64 (x10_1 + 1))) else (none)))) else (none))) else (none))) else (none)) else (none)) = some r := by first | (rw [hy201]; with_reducible exact H) | (have H2_ := (Option.bind_some _ _).symm.trans H; rw [hy201]; with_reducible exact H2_) | (have H2_ := (Option.bind_some _ _).symm.trans H; with_reducible exact H2_) | with_reducible exact H | (rw [hy201]; exact H) | exact H
                  have Ny201 := Aside0.mk hy201
                  clear hy201
                  by_cases c26 : 0 ≤ x6_2
                  · rw [if_pos c26] at H
                    have c26b0 := eq_true c26
                    have c26b1 : decide (0 ≤ x6_2) = true := decide_eq_true c26
                    clear c26
                    by_cases c27 : x6_2 ≤ (x3_1.length : Int)
                    · rw [if_pos c27] at H
                      have c27b0 := eq_true c27
                      have c27b1 : decide (x6_2 ≤ (x3_1.length : Int)) = true := decide_eq_true c27
                      clear c27
                      obtain ⟨y204, hy204⟩ : ∃ y_ : List Int, y_ = (x3_1.take (x6_2 : Int).toNat) := ⟨_, rfl⟩
                      replace H : (if y201.length + y204.length < 17592186044416 then ((some (y201 ++ y204 : List Int)).bind fun y208 => (if y208.length < 17592186044416 then ((some (y208 ++ [x10_1] : List Int)).bind fun y211 => ((some (x3_1.drop (x6_2 : Int).toNat : List Int)).bind fun y214 => (if y211.length + y214.length < 17592186044416 then (spec_l3Rank.l0 k2 l0 (y211 ++ y214) l0 (l0.length : Int) (wrap64 (x10_1 + 1))) else (none)))) else (none))) else (none)) = some r := by first | (rw [hy204]; with_reducible exact H) | (have H2_ := (Option.bind_some _ _).symm.trans H; rw [hy204]; with_reducible exact H2_) | (have H2_ := (Option.bind_some _ _).symm.trans H; with_reducible exact H2_) | with_reducible exact H | (rw [hy204]; exact H) | exact H
                      have Ny204 := Aside0.mk hy204
                      clear hy204
                      by_cases c28 : y201.length + y204.length < 17592186044416
                      · rw [if_pos c28] at H
                        have LMc28 := Aside0.mk c28
                        clear c28
                        obtain ⟨y208, hy208⟩ : ∃ y_ : List Int, y_ = (y201 ++ y204) := ⟨_, rfl⟩
                        replace H : (if y208.length < 17592186044416 then ((some (y208 ++ [x10_1] : List Int)).bind fun y211 => ((some (x3_1.drop (x6_2 : Int).toNat : List Int)).bind fun y214 => (if y211.length + y214.length < 17592186044416 then (spec_l3Rank.l0 k2 l0 (y211 ++ y214) l0 (l0.length : Int) (wrap64 (x10_1 + 1))) else (none)))) else (none)) = some r := by first | (rw [hy208]; with_reducible exact H) | (have H2_ := (Option.bind_some _ _).symm.trans H; rw [hy208]; with_reducible exact H2_) | (have H2_ := (Option.bind_some _ _).symm.trans H; with_reducible exact H2_) | with_reducible exact H | (rw [hy208]; exact H) | exact H
                        have Ny208 := Aside0.mk hy208
                        clear hy208
                        by_cases c29 : y208.length < 17592186044416
                        · rw [if_pos c29] at H
                          have LMc29 := Aside0.mk c29
                          clear c29
                          obtain ⟨y211, hy211⟩ : ∃ y_ : List Int, y_ = (y208 ++ [x10_1]) := ⟨_, rfl⟩
                          replace H : ((some (x3_1.drop (x6_2 : Int).toNat : List Int)).bind fun y214 => (if y211.length + y214.length < 17592186044416 then (spec_l3Rank.l0 k2 l0 (y211 ++ y214) l0 (l0.length : Int) (wrap64 (x10_1 + 1))) else (none))) = some r := by first | (rw [hy211]; with_reducible exact H) | (have H2_ := (Option.bind_some _ _).symm.trans H; rw [hy211]; with_reducible exact H2_) | (have H2_ := (Option.bind_some _ _).symm.trans H; with_reducible exact H2_) | with_reducible exact H | (rw [hy211]; exact H) | exact H
                          have Ny211 := Aside0.mk hy211
                          clear hy211
                          have c30b0 := eq_true (of_decide_eq_true (by first | (with_reducible assumption) | assumption) : 0 ≤ x6_2)
                          have c31b0 := eq_true (of_decide_eq_true (by first | (with_reducible assumption) | assumption) : x6_2 ≤ (x3_1.length : Int))
                          obtain ⟨y214, hy214⟩ : ∃ y_ : List Int, y_ = (x3_1.drop (x6_2 : Int).toNat) := ⟨_, rfl⟩
                          replace H : (if y211.length + y214.length < 17592186044416 then (spec_l3Rank.l0 k2 l0 (y211 ++ y214) l0 (l0.length : Int) (wrap64 (x10_1 + 1))) else (none)) = some r := by first | (rw [hy214]; with_reducible exact H) | (have H2_ := (Option.bind_some _ _).symm.trans H; rw [hy214]; with_reducible exact H2_) | (have H2_ := (Option.bind_some _ _).symm.trans H; with_reducible exact H2_) | with_reducible exact H | (rw [hy214]; exact H) | exact H
                          have Ny214 := Aside0.mk hy214
                          clear hy214
                          by_cases c32 : y211.length + y214.length < 17592186044416
                          · rw [if_pos c32] at H
                            have LMc32 := Aside0.mk c32
                            clear c32
                            obtain ⟨y218, hy218⟩ : ∃ y_ : List Int, y_ = (y211 ++ y214) := ⟨_, rfl⟩
                            replace H : (spec_l3Rank.l0 k2 l0 y218 l0 (l0.length : Int) (wrap64 (x10_1 + 1))) = some r := by first | (rw [hy218]; with_reducible exact H) | (have H2_ := (Option.bind_some _ _).symm.trans H; rw [hy218]; with_reducible exact H2_) | (have H2_ := (Option.bind_some _ _).symm.trans H; with_reducible exact H2_) | with_reducible exact H | (rw [hy218]; exact H) | exact H
                            have Ny218 := Aside0.mk hy218
                            clear hy218
                            have H' := Aside0.mk H
                            clear H
                            obtain ⟨Ao33, co33, eo33⟩ := Kd.R_slice HO_3.out
                            subst eo33
                            go_wp2_with (first | ((with_reducible refine gate_dst (N := 32) rfl ?_); refine Kd.R_lit (Kd.int .i64) _ 3 ?hg (N := 32) ?hd (xs := ([] : List Int)) (inner := []) (ok := fun _ => True) (okp := fun _ => True) ?hr ?hp (fun _ hk => hk) trivial (Below.refl _ _) (Nat.le_refl _) (by simp) ?_; (case hd => rfl); (case hg => rfl); (case hr => first | (go_simp; done) | (go_simp; rfl)); (case hp => exact (Reps.none _ _)); intro v202 w34 ho35 hb hg_ hnew_; clear hg_ hnew_; (first | rw [← Ny201.out] at ho35 | (simp only [Int.reduceToNat] at ho35; rw [← Ny201.out] at ho35)); have n0_ := Aside0.mk (Kd.R_elder' (by (with_reducible repeat (first | apply Kd.R_alloc | apply Kd.R_drewN | apply Kd.R_drew)); exact HO_3.out) (Kd.R_base ho35) hb); have n1_ := Aside0.mk (Kd.R_lower (Kd.R_new' ho35 (Kd.R_lt (by (with_reducible repeat (first | apply Kd.R_alloc | apply Kd.R_drewN | apply Kd.R_drew)); exact HO_3.out))) (below_size (by repeat (first | (with_reducible first | exact HB.out | apply below_alloc | apply pw_below_drewN | apply below_drew1) | exact HB.out)))); have n2_ := Aside0.mk (below_step (by repeat (first | (with_reducible first | exact HB.out | apply below_alloc | apply pw_below_drewN | apply below_drew1) | exact HB.out)) hb); clear HO_3; clear HB; have HO_3 := n0_; have HO203 := n1_; have HB := n2_; clear n0_ n1_ n2_; clear hb ho35; have q36 : (x6_2 : Int) ≤ ((x3_1.length : Int) : Int) := of_decide_eq_true (by first | (with_reducible assumption) | assumption); obtain ⟨i036, hi036, _, hsz36, _⟩ := info_parts info3; have hroom36 : x3_1.length ≤ co33 := (Kd.R_reads' HO_3.out).2.1; have hC36 : Kd.C (Kd.int .i64) _ Ao33 x3_1.length x3_1 := (Kd.R_reads' HO_3.out).2.2; have hcut36 := cut_to (P := Try.prog) 22 3 .i64 Try.underlying22 hi036 Ao33 x3_1.length co33 x6_2 (of_decide_eq_true (by first | (with_reducible assumption) | assumption)) q36 hroom36; have hr36 := Kd.C_take (m := (x6_2 : Int).toNat) hC36 (by omega); have hy36 : y204.length = (x6_2 : Int).toNat := (by rw [Ny204.out, List.length_take]; omega); rw [← Ny204.out] at hr36; rw [← hy36] at hcut36; have HR207 := Aside0.mk hr36; have HC207 := Aside0.mk (show y204.length ≤ co33 from by omega); clear hr36 hC36 hroom36 hi036 hsz36; have KY36 := Aside0.mk hy36; clear hy36; have KL36 := Aside0.mk (show (x6_2 : Int).toNat ≤ x3_1.length from by omega); replace q36 := eq_true q36) | ((with_reducible refine gate_builtin (b := .append) (xs := #[.tmp 32, .tmp 35]) rfl ?_); at_builtin; refine Kd.R_append_rows (Kd.int .i64) (w0 := w) w.heap.size rfl (.tmp 32) (.tmp 35) 22 3 (.int .i64 0) 8 rfl Try.underlying22 info3 rfl (by decide) (by omega) v202 y201 y204 _ _ _ (fun k_ => some k_ ≠ (.slice Ao33 x3_1.length co33 : Value).ownBlock) (fun _ => False) rfl rfl ?aO ?aR (fun _ _ h => h) (fun _ h => h.elim) ?aF ?aB ?aS ?aL ?_; (case aR => repeat (first | exact (by repeat (first | (with_reducible exact HR207.out) | (with_reducible refine Kd.C_alloc ?_ _) | (with_reducible refine Kd.C_drewN ?_ _) | (with_reducible refine Kd.C_drew ?_) | exact HR207.out)) | (with_reducible refine Kd.C_alloc ?_ _) | (with_reducible refine Kd.C_drewN ?_ _) | (with_reducible refine Kd.C_drew ?_))); (case aB => exact (by repeat (first | (with_reducible first | exact HB.out | apply below_alloc | apply pw_below_drewN | apply below_drew1) | exact HB.out))); (case aF => exact (fun k_ hk => Kd.fresh' (Kd.R_lt (by (with_reducible repeat (first | apply Kd.R_alloc | apply Kd.R_drewN | apply Kd.R_drew)); exact HO_3.out)) k_ hk)); (case aO => exact (by (with_reducible repeat (first | apply Kd.R_alloc | apply Kd.R_drewN | apply Kd.R_drew)); exact Kd.R_mono HO203.out (fun _ hk => hk.2))); (case aS => exact (below_size (by repeat (first | (with_reducible first | exact HB.out | apply below_alloc | apply pw_below_drewN | apply below_drew1) | exact HB.out)))); (case aL => have := LMc28.out; omega); intro v209 w37 ho hb hg hat; rw [← Ny208.out] at ho; have n0_ := Aside0.mk (Kd.R_after (ok := (fun _ => True)) (by (with_reducible repeat (first | apply Kd.R_alloc | apply Kd.R_drewN | apply Kd.R_drew)); exact HO_3.out) hg hat); have n1_ := Aside0.mk (hb); have n2_ := Aside0.mk ((show Kd.C (Kd.int .i64) w37 Ao33 y204.length y204 from by rw [Ny204.out]; exact Kd.C_take (m := (x6_2 : Int).toNat) ((Kd.R_reads' (Kd.R_after (ok := (fun _ => True)) (by (with_reducible repeat (first | apply Kd.R_alloc | apply Kd.R_drewN | apply Kd.R_drew)); exact HO_3.out) hg hat)).2.2) KL36.out)); have n3_ := Aside0.mk (ho); clear HO_3; clear HB; clear HR207; clear HO203; have HO_3 := n0_; have HB := n1_; have HR207 := n2_; have HO210 := n3_; clear n0_ n1_ n2_ n3_; clear ho hb hg hat) | ((with_reducible refine gate_builtin (b := .append) (xs := #[.tmp 37, .tmp 39]) rfl ?_); at_builtin; refine Kd.R_append (Kd.int .i64) (w0 := w) w.heap.size rfl (.tmp 37) (.tmp 39) 22 3 (.int .i64 0) 8 rfl Try.underlying22 info3 rfl (by decide) (by omega) v209 y208 x10_1 [.int .i64 x10_1] (fun k_ => some k_ ≠ (.slice Ao33 x3_1.length co33 : Value).ownBlock) (fun _ => False) rfl rfl ?aP (fun _ hk => hk.elim) ?aF ?aO ?aB ?aS ?aL ?_; (case aP => exact rfl); (case aB => exact (by repeat (first | (with_reducible first | exact HB.out | apply below_alloc | apply pw_below_drewN | apply below_drew1) | exact HB.out))); (case aF => exact (fun k_ hk => Kd.fresh' (Kd.R_lt (by (with_reducible repeat (first | apply Kd.R_alloc | apply Kd.R_drewN | apply Kd.R_drew)); exact HO_3.out)) k_ hk)); (case aO => exact (by (with_reducible repeat (first | apply Kd.R_alloc | apply Kd.R_drewN | apply Kd.R_drew)); exact HO210.out)); (case aS => exact (below_size (by repeat (first | (with_reducible first | exact HB.out | apply below_alloc | apply pw_below_drewN | apply below_drew1) | exact HB.out)))); (case aL => have := LMc29.out; omega); intro v212 w38 ho hb hg hat; rw [← Ny211.out] at ho; have n0_ := Aside0.mk (Kd.R_after (ok := (fun _ => True)) (by (with_reducible repeat (first | apply Kd.R_alloc | apply Kd.R_drewN | apply Kd.R_drew)); exact HO_3.out) hg hat); have n1_ := Aside0.mk (hb); have n2_ := Aside0.mk ((show Kd.C (Kd.int .i64) w38 Ao33 y204.length y204 from by rw [Ny204.out]; exact Kd.C_take (m := (x6_2 : Int).toNat) ((Kd.R_reads' (Kd.R_after (ok := (fun _ => True)) (by (with_reducible repeat (first | apply Kd.R_alloc | apply Kd.R_drewN | apply Kd.R_drew)); exact HO_3.out) hg hat)).2.2) KL36.out)); have n3_ := Aside0.mk (ho); clear HO_3; clear HB; clear HR207; clear HO210; have HO_3 := n0_; have HB := n1_; have HR207 := n2_; have HO213 := n3_; clear n0_ n1_ n2_ n3_; clear ho hb hg hat; have q39 : (x6_2 : Int) ≤ ((x3_1.length : Int) : Int) := of_decide_eq_true (by first | (with_reducible assumption) | assumption); obtain ⟨i039, hi039, _, hsz39, _⟩ := info_parts info3; have hroom39 : x3_1.length ≤ co33 := (Kd.R_reads' HO_3.out).2.1; have hC39 : Kd.C (Kd.int .i64) _ Ao33 x3_1.length x3_1 := (Kd.R_reads' HO_3.out).2.2; have q039 : (0 : Int) ≤ (x6_2 : Int) := of_decide_eq_true (by first | (with_reducible assumption) | assumption); have hcut39 := cut_from (P := Try.prog) 22 3 .i64 Try.underlying22 hi039 1 hsz39 Ao33 x3_1.length co33 x6_2 q039 q39; have hr39 := Kd.C_drop (m := (x6_2 : Int).toNat) (c := co33) hC39 (by omega) hroom39; obtain ⟨A39, hA39⟩ : ∃ A1, A1 = (if co33 = (x6_2 : Int).toNat then Ao33 else (Ao33 : Option Addr).map (·.add ((x6_2 : Int).toNat * 1))) := ⟨_, rfl⟩; obtain ⟨c39, hc39⟩ : ∃ c1, c1 = co33 - (x6_2 : Int).toNat := ⟨_, rfl⟩; have hy39 : y214.length = x3_1.length - (x6_2 : Int).toNat := (by rw [Ny214.out, List.length_drop] <;> omega); rw [show (x3_1).drop (x6_2 : Int).toNat = y214 from Ny214.out.symm] at hr39; replace hr39 : Kd.C (Kd.int .i64) _ A39 y214.length y214 := (by rw [hA39]; exact hr39); rw [← hy39, ← hA39, ← hc39] at hcut39; have HR217 := Aside0.mk hr39; have HC217 := Aside0.mk (show y214.length ≤ c39 from by rw [hy39, hc39]; exact Nat.sub_le_sub_right hroom39 _); clear hr39 hC39 hroom39 hi039 hsz39 hc39; have KY39 := Aside0.mk hy39; have KA39 := Aside0.mk hA39; clear hy39 hA39; have KL39 := Aside0.mk (show (x6_2 : Int).toNat ≤ x3_1.length from by omega); replace q39 := eq_true q39) | ((with_reducible refine gate_builtin (b := .append) (xs := #[.tmp 41, .tmp 44]) rfl ?_); at_builtin; refine Kd.R_append_rows (Kd.int .i64) (w0 := w) w.heap.size rfl (.tmp 41) (.tmp 44) 22 3 (.int .i64 0) 8 rfl Try.underlying22 info3 rfl (by decide) (by omega) v212 y211 y214 _ _ _ (fun k_ => some k_ ≠ (.slice Ao33 x3_1.length co33 : Value).ownBlock) (fun _ => False) rfl rfl ?aO ?aR (fun _ _ h => h) (fun _ h => h.elim) ?aF ?aB ?aS ?aL ?_; (case aR => repeat (first | exact (by repeat (first | (with_reducible exact HR217.out) | (with_reducible refine Kd.C_alloc ?_ _) | (with_reducible refine Kd.C_drewN ?_ _) | (with_reducible refine Kd.C_drew ?_) | exact HR217.out)) | (with_reducible refine Kd.C_alloc ?_ _) | (with_reducible refine Kd.C_drewN ?_ _) | (with_reducible refine Kd.C_drew ?_))); (case aB => exact (by repeat (first | (with_reducible first | exact HB.out | apply below_alloc | apply pw_below_drewN | apply below_drew1) | exact HB.out))); (case aF => exact (fun k_ hk => Kd.fresh' (Kd.R_lt (by (with_reducible repeat (first | apply Kd.R_alloc | apply Kd.R_drewN | apply Kd.R_drew)); exact HO_3.out)) k_ hk)); (case aO => exact (by (with_reducible repeat (first | apply Kd.R_alloc | apply Kd.R_drewN | apply Kd.R_drew)); exact HO213.out)); (case aS => exact (below_size (by repeat (first | (with_reducible first | exact HB.out | apply below_alloc | apply pw_below_drewN | apply below_drew1) | exact HB.out)))); (case aL => have := LMc32.out; omega); intro v219 w40 ho hb hg hat; rw [← Ny218.out] at ho; have n0_ := Aside0.mk (Kd.R_after (ok := (fun _ => True)) (by (with_reducible repeat (first | apply Kd.R_alloc | apply Kd.R_drewN | apply Kd.R_drew)); exact HO_3.out) hg hat); have n1_ := Aside0.mk (hb); have n2_ := Aside0.mk ((show Kd.C (Kd.int .i64) w40 Ao33 y204.length y204 from by rw [Ny204.out]; exact Kd.C_take (m := (x6_2 : Int).toNat) ((Kd.R_reads' (Kd.R_after (ok := (fun _ => True)) (by (with_reducible repeat (first | apply Kd.R_alloc | apply Kd.R_drewN | apply Kd.R_drew)); exact HO_3.out) hg hat)).2.2) KL36.out)); have n3_ := Aside0.mk ((show Kd.C (Kd.int .i64) w40 A39 y214.length y214 from by rw [Ny214.out, KA39.out]; exact Kd.C_drop (m := (x6_2 : Int).toNat) (c := co33) ((Kd.R_reads' (Kd.R_after (ok := (fun _ => True)) (by (with_reducible repeat (first | apply Kd.R_alloc | apply Kd.R_drewN | apply Kd.R_drew)); exact HO_3.out) hg hat)).2.2) KL39.out ((Kd.R_reads' (Kd.R_after (ok := (fun _ => True)) (by (with_reducible repeat (first | apply Kd.R_alloc | apply Kd.R_drewN | apply Kd.R_drew)); exact HO_3.out) hg hat)).2.1))); have n4_ := Aside0.mk (ho); clear HO_3; clear HB; clear HR207; clear HR217; clear HO213; have HO_3 := n0_; have HB := n1_; have HR207 := n2_; have HR217 := n3_; have HO220 := n4_; clear n0_ n1_ n2_ n3_ n4_; clear ho hb hg hat))
                            go_roundg k2
                            case measure => have := HK1.out; have := HK2.out; omega
                            case rel => exact ⟨(y218), (wrap64 (x10_1 + 1)), (by first | rfl | (simp; done) | (simp [*]; done)), H', ⟨by have := HK1.out; have := HK2.out; omega⟩, ⟨by (with_reducible repeat (first | apply Kd.R_alloc | apply Kd.R_drewN | apply Kd.R_drew)); exact Kd.R_mono HO220.out (fun _ hk => trivial)⟩, ⟨by repeat (first | (with_reducible first | exact HB.out | apply below_alloc | apply pw_below_drewN | apply below_drew1) | exact HB.out)⟩⟩
                          · rw [if_neg c32] at H
                            exact absurd H (by simp)
                        · rw [if_neg c29] at H
                          exact absurd H (by simp)
                      · rw [if_neg c28] at H
                        exact absurd H (by simp)
                    · rw [if_neg c27] at H
                      exact absurd H (by simp)
                  · rw [if_neg c26] at H
                    exact absurd H (by simp)
          · rw [if_neg c4] at H
            exact absurd H (by simp)
        · rw [if_neg c3] at H
          exact absurd H (by simp)
      · rw [if_neg c2] at H
        have c2b0 : decide (x10_1 < (l0.length : Int)) = false := decide_eq_false c2
        clear c2
        obtain rfl := Option.some.inj H
        go_wp2
        go_ret
        exact ⟨_, by first | rfl | (simp [errW_none, errW_some] <;> rfl) | (simp [*, errW_none, errW_some] <;> rfl), by (with_reducible repeat (first | apply Kd.R_alloc | apply Kd.R_drewN | apply Kd.R_drew)); exact HO_3.out, by repeat (first | (with_reducible first | exact HB.out | apply below_alloc | apply pw_below_drewN | apply below_drew1) | exact HB.out)⟩

/-! ### spec_FitSorted: function 24 -/
def spec_FitSorted.f (k : Nat) (l0 : List Int) : Option ((List (List Int)) × Bool) := (spec_GoodItems.f k l0).bind fun t221 => (if t221 = true then ((spec_l3Rank.f k l0).bind fun t222 => ((spec_l12Fill.f k l0 t222).bind fun t225 => (some (t225, true)))) else (some (([] : List (List Int)), false)))
theorem spec_FitSorted.mono : ∀ a0 k, LeO (spec_FitSorted.f k a0) (spec_FitSorted.f (k + 1) a0) := by
  intro a0 k
  unfold spec_FitSorted.f
  repeat' first
      | (with_reducible exact spec_GoodItems.mono _ _)
      | (with_reducible exact spec_l12Fill.mono _ _ _)
      | (with_reducible exact spec_l3Rank.mono _ _)
      | (with_reducible exact LeO.refl _)
      | (with_reducible exact LeO.none _)
      | (with_reducible refine LeO.ite ?_ ?_)
      | (with_reducible refine LeO.bind ?_ (fun _ => ?_))
      | exact spec_GoodItems.mono _ _
      | exact spec_l12Fill.mono _ _ _
      | exact spec_l3Rank.mono _ _
      | exact LeO.none _
      | refine LeO.ite ?_ ?_
      | refine LeO.bind ?_ (fun _ => ?_)
set_option maxHeartbeats 8000000 in
set_option maxRecDepth 100000 in
theorem spec_FitSorted.calls (k : Nat) (A0 : Option Addr) (c0 : Nat) (l0 : List Int) (r1 : List (List Int)) (r2 : Bool) (w : World) (hr0 : Kd.C (Kd.int .i64) w A0 l0.length l0) (hc0 : l0.length ≤ c0) (h : spec_FitSorted.f k l0 = some (r1, r2)) :
    Calls Try.prog 24 #[.slice A0 l0.length c0] w fun e w' => ∃ v0_ : Value, e = .returned (.tuple #[v0_, .bool r2]) ∧ Kd.S (Kd.slice 3 (Kd.int .i64)) 22 w' w.heap.size (fun _ => True) v0_ r1 ∧ Below w.heap.size w w' := by
  have HR0 := Aside0.mk hr0
  have HC0 := Aside0.mk hc0
  clear hr0 hc0
  have HB := Aside0.mk (Below.refl w.heap.size w)
  have H : ((spec_GoodItems.f k l0).bind fun t221 => (if t221 = true then ((spec_l3Rank.f k l0).bind fun t222 => ((spec_l12Fill.f k l0 t222).bind fun t225 => (some (t225, true)))) else (some (([] : List (List Int)), false)))) = some (r1, r2) := h
  clear h
  replace H := Option.bind_eq_some_iff.mp H
  obtain ⟨t221, A20, H⟩ := H
  replace H : (if t221 = true then ((spec_l3Rank.f k l0).bind fun t222 => ((spec_l12Fill.f k l0 t222).bind fun t225 => (some (t225, true)))) else (some (([] : List (List Int)), false))) = some (r1, r2) := H
  have A2 := Aside0.mk A20
  clear A20
  by_cases c3 : t221 = true
  · subst c3
    have H1 : ((spec_l3Rank.f k l0).bind fun t222 => ((spec_l12Fill.f k l0 t222).bind fun t225 => (some (t225, true)))) = some (r1, r2) := by rw [if_pos rfl] at H; exact H
    clear H
    have H := H1
    clear H1
    replace H := Option.bind_eq_some_iff.mp H
    obtain ⟨t222, A40, H⟩ := H
    replace H : ((spec_l12Fill.f k l0 t222).bind fun t225 => (some (t225, true))) = some (r1, r2) := H
    have A4 := Aside0.mk A40
    clear A40
    replace H := Option.bind_eq_some_iff.mp H
    obtain ⟨t225, A50, H⟩ := H
    replace H : (some (t225, true)) = some (r1, r2) := H
    have A5 := Aside0.mk A50
    clear A50
    simp only [Option.some.injEq, Prod.mk.injEq] at H
    obtain ⟨rfl, rfl⟩ := H
    go_enter Try.func24, Try.ntmps24
    go_wp2_with (first | ((with_reducible refine gate_callee (f := 10) rfl ?_); refine goesL_ (some 5) rfl rfl Try.func10 (by kernel_rfl) rfl #[.slice A0 l0.length c0] rfl (by (try simp only [List.map_toArray, List.map_cons, List.map_nil]); first | done | rfl | (simp only [List.length_drop, List.length_take]; rfl)) ?_; (with_reducible refine (spec_GoodItems.calls k _ _ l0 true _ ?side1 ?side2 A2.out).mono ?_); (case side1 => repeat (first | exact HR0.out | (with_reducible refine Kd.C_alloc ?_ _) | (with_reducible refine Kd.C_drewN ?_ _) | (with_reducible refine Kd.C_drew ?_))); (case side2 => exact HC0.out); rintro e w' ⟨rfl, ⟨nd, rfl⟩⟩; refine ⟨_, rfl, ?_⟩) | ((with_reducible refine gate_callee (f := 44) rfl ?_); refine goesL_ (some 9) rfl rfl Try.func44 (by kernel_rfl) rfl #[.slice A0 l0.length c0] rfl (by (try simp only [List.map_toArray, List.map_cons, List.map_nil]); first | done | rfl | (simp only [List.length_drop, List.length_take]; rfl)) ?_; (with_reducible refine (spec_l3Rank.calls k _ _ l0 t222 _ ?side1 ?side2 A4.out).mono ?_); (case side1 => repeat (first | exact HR0.out | (with_reducible refine Kd.C_alloc ?_ _) | (with_reducible refine Kd.C_drewN ?_ _) | (with_reducible refine Kd.C_drew ?_))); (case side2 => exact HC0.out); rintro e w6 ⟨v223, rfl, ho0, hb⟩; refine ⟨_, rfl, ?_⟩; have n0_ := Aside0.mk (Kd.R_lower ho0 (below_size (by repeat (first | (with_reducible first | exact HB.out | apply below_alloc | apply pw_below_drewN | apply below_drew1) | exact HB.out)))); have n1_ := Aside0.mk (below_step (by repeat (first | (with_reducible first | exact HB.out | apply below_alloc | apply pw_below_drewN | apply below_drew1) | exact HB.out)) hb); clear HB; have HO224 := n0_; have HB := n1_; clear n0_ n1_; (try clear hb); (try clear hb2); (try clear hk); (try clear hi); (try clear ho0); obtain ⟨Ao7, co7, eo7⟩ := Kd.R_slice HO224.out; subst eo7) | ((with_reducible refine gate_callee (f := 38) rfl ?_); refine goesL_ (some 10) rfl rfl Try.func38 (by kernel_rfl) rfl #[.slice A0 l0.length c0, .slice Ao7 t222.length co7] rfl (by (try simp only [List.map_toArray, List.map_cons, List.map_nil]); first | done | rfl | (simp only [List.length_drop, List.length_take]; rfl)) ?_; (with_reducible refine (spec_l12Fill.calls k _ _ l0 _ _ t222 t225 _ ?side1 ?side2 ?side3 ?side4 A5.out).mono ?_); (case side1 => repeat (first | exact (Kd.C_below HR0.out HB.out) | (with_reducible refine Kd.C_alloc ?_ _) | (with_reducible refine Kd.C_drewN ?_ _) | (with_reducible refine Kd.C_drew ?_))); (case side2 => exact HC0.out); (case side3 => repeat (first | exact (Kd.R_reads' HO224.out).2.2 | (with_reducible refine Kd.C_alloc ?_ _) | (with_reducible refine Kd.C_drewN ?_ _) | (with_reducible refine Kd.C_drew ?_))); (case side4 => exact (Kd.R_reads' HO224.out).2.1); rintro e w8 ⟨v226, rfl, ho0, hb⟩; refine ⟨_, rfl, ?_⟩; have n0_ := Aside0.mk (Kd.R_below (by (with_reducible repeat (first | apply Kd.R_alloc | apply Kd.R_drewN | apply Kd.R_drew)); exact HO224.out) hb); have n1_ := Aside0.mk (Kd.S_lower (Kd.S_new' ho0 (Kd.R_lt (by (with_reducible repeat (first | apply Kd.R_alloc | apply Kd.R_drewN | apply Kd.R_drew)); exact HO224.out))) (below_size (by repeat (first | (with_reducible first | exact HB.out | apply below_alloc | apply pw_below_drewN | apply below_drew1) | exact HB.out)))); have n2_ := Aside0.mk (below_step (by repeat (first | (with_reducible first | exact HB.out | apply below_alloc | apply pw_below_drewN | apply below_drew1) | exact HB.out)) hb); clear HO224; clear HB; have HO224 := n0_; have HO227 := n1_; have HB := n2_; clear n0_ n1_ n2_; (try clear hb); (try clear hb2); (try clear hk); (try clear hi); (try clear ho0)))
    go_ret2
    exact ⟨_, by first | rfl | (simp [errW_none, errW_some] <;> rfl) | (simp [*, errW_none, errW_some] <;> rfl), by (with_reducible repeat (first | apply Kd.S_alloc | apply Kd.S_drewN | apply Kd.S_drew)); exact Kd.S_mono HO227.out (fun _ hk => trivial), by repeat (first | (with_reducible first | exact HB.out | apply below_alloc | apply pw_below_drewN | apply below_drew1) | exact HB.out)⟩
  · replace c3 := Bool.eq_false_iff.mpr c3
    subst c3
    have H1 : (some (([] : List (List Int)), false)) = some (r1, r2) := by rw [if_neg (show ¬ (false = true) by decide)] at H; exact H
    clear H
    have H := H1
    clear H1
    simp only [Option.some.injEq, Prod.mk.injEq] at H
    obtain ⟨rfl, rfl⟩ := H
    go_enter Try.func24, Try.ntmps24
    go_wp2_with (first | ((with_reducible refine gate_callee (f := 10) rfl ?_); refine goesL_ (some 5) rfl rfl Try.func10 (by kernel_rfl) rfl #[.slice A0 l0.length c0] rfl (by (try simp only [List.map_toArray, List.map_cons, List.map_nil]); first | done | rfl | (simp only [List.length_drop, List.length_take]; rfl)) ?_; (with_reducible refine (spec_GoodItems.calls k _ _ l0 false _ ?side1 ?side2 A2.out).mono ?_); (case side1 => repeat (first | exact HR0.out | (with_reducible refine Kd.C_alloc ?_ _) | (with_reducible refine Kd.C_drewN ?_ _) | (with_reducible refine Kd.C_drew ?_))); (case side2 => exact HC0.out); rintro e w' ⟨rfl, ⟨nd, rfl⟩⟩; refine ⟨_, rfl, ?_⟩))
    go_ret2
    exact ⟨_, by first | rfl | (simp [errW_none, errW_some] <;> rfl) | (simp [*, errW_none, errW_some] <;> rfl), by first | exact Kd.S_nil _ _ _ _ _ | exact Kd.N_nil _ _ _ _ _ | exact Kd.V_nil _ _ _ _ _ | exact Kd.Q_nil _ _ _ _ _ | exact Kd.R_nil _ _ _ _ _, by repeat (first | (with_reducible first | exact HB.out | apply below_alloc | apply pw_below_drewN | apply below_drew1) | exact HB.out)⟩

/-! ### slices_IndexFunc_int_int_64: function 64 -/
set_option maxHeartbeats 4000000 in
theorem slices_IndexFunc_int_int_64.any (A0 : Option Addr) (c0 : Nat) (l0 : List Int) (p : Int → Bool) (g : Nat) (lb : Array Value) (eg : ∀ args w, (callFunc g args).run Try.prog w = .ok (.enter g args) w) (w : World) (hr0 : Kd.C (Kd.int .i64) w A0 l0.length l0)
    (hp : ∀ x, x ∈ l0 → PredB Try.prog g lb #[.int .i64 x] (p x) w) :
    Calls Try.prog 64 #[.slice A0 l0.length c0, .func (.func g) #[] lb] w fun e w' => e = .returned (.int .i64 (idxP p l0)) ∧ Below w.heap.size w w' := by
  have HR0 := Aside0.mk hr0
  have HP := Aside0.mk hp
  clear hr0 hp
  go_enter Try.func64, Try.ntmps64
  go_wp2
  go_loopg [5, 8] l0.length (fun gk _ v8 w' => ∃ x8 : Int, v8 = .int .i64 x8 ∧ Aside0 (0 ≤ x8 ∧ x8 ≤ l0.length ∧ (l0.length : Int) - x8 ≤ gk) ∧ Aside0 (Below w.heap.size w w') ∧ Aside0 (∀ j, j < x8.toNat → p (l0.getD j 0) = false))
  case atStart => exact ⟨0, rfl, ⟨by omega, by omega, by omega⟩, ⟨Below.refl _ _⟩, ⟨fun j hj => absurd hj (Nat.not_lt_zero _)⟩⟩
  case round =>
    obtain ⟨x8, rfl, HI, HB, HJ⟩ := hrel
    by_cases c : x8 < (l0.length : Int)
    · have cb : decide (x8 < (l0.length : Int)) = true := decide_eq_true c
      have CC := Aside0.mk c
      obtain ⟨ad, e, hx_0⟩ := Kd.at_int HR0.out x8 HI.out.1 c
      cases e
      replace hx_0 := (HB.out.cell (World.block_lt_of_cell? w _ hx_0)).trans hx_0
      have p0 := eq_true HI.out.1
      have q0 := eq_true c
      have p1 : decide (0 ≤ x8) = true := decide_eq_true HI.out.1
      have hcall := HP.out (rd l0 x8) (getD_mem 0 (by have := HI.out; omega)) wr HB.out
      skip
      clear c
      cases hq : p (rd l0 x8) with
      | true =>
        have HQ := Aside0.mk hq
        rw [hq] at hcall
        clear hq
        go_wp2_with (go_at_fn g; refine hcall.mono ?_; rintro e w' ⟨rfl, hb'⟩)
        go_ret
        refine ⟨?_, hb'⟩
        have h1 := HI.out
        have h2 := CC.out
        rw [idxP_hit (k := x8.toNat) 0 (by omega) HQ.out HJ.out, Int.toNat_of_nonneg h1.1]
        rfl
      | false =>
        have HQ := Aside0.mk hq
        rw [hq] at hcall
        clear hq
        go_wp2_with (go_at_fn g; refine hcall.mono ?_; rintro e w' ⟨rfl, hb'⟩)
        go_roundg (l0.length - (x8.toNat + 1))
        case measure => have h1 := HI.out; have h2 := CC.out; omega
        case rel =>
          have h1 := HI.out
          have h2 := CC.out
          refine ⟨x8 + 1, ?_, ⟨by omega, by omega, by omega⟩, ⟨hb'⟩, ⟨fun j hj => ?_⟩⟩
          · first | rfl | rw [wrap_up h1.1 h2 (Kd.C_max HR0.out)]
          · by_cases e : j = x8.toNat
            · subst e; exact HQ.out
            · exact HJ.out j (by omega)
    · have cb : decide (x8 < (l0.length : Int)) = false := decide_eq_false c
      have CC := Aside0.mk c
      clear c
      go_wp2
      go_ret
      refine ⟨?_, HB.out⟩
      have h1 := HI.out
      have h2 := CC.out
      rw [idxP_miss 0 (fun j hj => HJ.out j (by omega))]
      rfl

/-! ### slices_ContainsFunc_int_int: function 49 -/
theorem slices_ContainsFunc_int_int.any (A0 : Option Addr) (c0 : Nat) (l0 : List Int) (p : Int → Bool) (g : Nat) (lb : Array Value) (eg : ∀ args w, (callFunc g args).run Try.prog w = .ok (.enter g args) w) (w : World) (hr0 : Kd.C (Kd.int .i64) w A0 l0.length l0)
    (hp : ∀ x, x ∈ l0 → PredB Try.prog g lb #[.int .i64 x] (p x) w) :
    Calls Try.prog 49 #[.slice A0 l0.length c0, .func (.func g) #[] lb] w fun e w' => e = .returned (.bool (l0.any p)) ∧ Below w.heap.size w w' := by
  have HI := Aside0.mk (slices_IndexFunc_int_int_64.any A0 c0 l0 p g lb eg w hr0 hp)
  rw [← idxP_any]
  generalize idxP p l0 = r at HI ⊢
  clear hr0 hp
  go_enter Try.func49, Try.ntmps49
  go_wp2_with (go_at_call 64; refine HI.out.mono ?_; rintro e w' ⟨rfl, hb'⟩)
  go_ret
  exact ⟨by first | rfl | simp, hb'⟩

/-! ### impl_within: function 51 -/
def impl_within.f (a0 : Int) (a1 : Int) (a2 : Int) : Option (Bool) := if a0 ≥ a1 then (some (decide (a0 ≤ a2))) else (some false)
set_option maxHeartbeats 8000000 in
set_option maxRecDepth 100000 in
theorem impl_within.calls (a0 : Int) (a1 : Int) (a2 : Int) (r : Bool) (w : World) (h : impl_within.f a0 a1 a2 = some r) :
    Calls Try.prog 51 #[.int .i64 a0, .int .i64 a1, .int .i64 a2] w fun e w' => e = .returned (.bool r) ∧ Drawn0 w w' := by
  have H : (if a0 ≥ a1 then (some (decide (a0 ≤ a2))) else (some false)) = some r := h
  clear h
  by_cases c4 : a0 ≥ a1
  · rw [if_pos c4] at H
    have c4b0 : decide (a1 ≤ a0) = true := decide_eq_true c4
    clear c4
    obtain rfl := Option.some.inj H
    go_enter Try.func51, Try.ntmps51
    go_wp2
    go_ret
    exact ⟨by first | rfl | (simp; done) | (simp [*]; done), by repeat (first | exact Drawn0.refl _ | apply Drawn0.step)⟩
  · rw [if_neg c4] at H
    have c4b0 : decide (a1 ≤ a0) = false := decide_eq_false c4
    clear c4
    obtain rfl := Option.some.inj H
    go_enter Try.func51, Try.ntmps51
    go_wp2
    go_ret
    exact ⟨by first | rfl | (simp; done) | (simp [*]; done), by repeat (first | exact Drawn0.refl _ | apply Drawn0.step)⟩

/-! ### impl_allWithin: function 33 -/
def impl_allWithin.f (l0 : List Int) (a1 : Int) (a2 : Int) : Option (Bool) := some (l0.all fun n => decide (a1 ≤ n) && decide (n ≤ a2))
theorem impl_allWithin.clo (lo hi : Int) (b1 b2 : Nat) (w : World) (h1 : b1 < w.heap.size) (h2 : b2 < w.heap.size) (k1 : w.cell? ⟨b1, 0, none⟩ = some (.int .i64 lo)) (k2 : w.cell? ⟨b2, 0, none⟩ = some (.int .i64 hi)) (x : Int) :
    PredB Try.prog 50 #[.pointer (some ⟨b1, 0, none⟩), .pointer (some ⟨b2, 0, none⟩)] #[.int .i64 x] (!(decide (lo ≤ x) && decide (x ≤ hi))) w := fun W hb => by
  have c1 : W.cell? ⟨b1, 0, none⟩ = some (.int .i64 lo) := (hb.cell (p := ⟨b1, 0, none⟩) h1).trans k1
  have c2 : W.cell? ⟨b2, 0, none⟩ = some (.int .i64 hi) := (hb.cell (p := ⟨b2, 0, none⟩) h2).trans k2
  have HB := Aside0.mk hb
  clear k1 k2 hb
  show Calls Try.prog 50 #[.int .i64 x, .pointer (some ⟨b1, 0, none⟩), .pointer (some ⟨b2, 0, none⟩)] W _
  by_cases e1 : lo ≤ x
  all_goals by_cases e2 : x ≤ hi
  all_goals (go_enter Try.func50, Try.ntmps50; go_wp2; go_ret; exact ⟨by simp [e1, e2], HB.out⟩)
set_option maxHeartbeats 4000000 in
theorem impl_allWithin.calls (A0 : Option Addr) (c0 : Nat) (l0 : List Int) (a1 : Int) (a2 : Int) (r : Bool) (w : World) (hr0 : Kd.C (Kd.int .i64) w A0 l0.length l0) (hc0 : l0.length ≤ c0) (h : impl_allWithin.f l0 a1 a2 = some r) :
    Calls Try.prog 33 #[.slice A0 l0.length c0, .int .i64 a1, .int .i64 a2] w fun e w' => e = .returned (.bool r) ∧ Below w.heap.size w w' := by
  obtain rfl := Option.some.inj h
  clear h
  have HR0 := Aside0.mk hr0
  clear hr0 hc0
  have eg : ∀ args w, (callFunc 50 args).run Try.prog w = .ok (.enter 50 args) w := enters_of Try.func50 (by kernel_rfl) rfl
  have HC := Aside0.mk (slices_ContainsFunc_int_int.any A0 c0 l0 (fun n => !(decide (a1 ≤ n) && decide (n ≤ a2))) 50 #[.pointer (some ⟨w.heap.size, 0, none⟩), .pointer (some ⟨w.heap.size + 1, 0, none⟩)] eg ((w.alloc (.cells #[.int .i64 a1] 3)).alloc (.cells #[.int .i64 a2] 3))
    (Kd.C_alloc (Kd.C_alloc HR0.out _) _) (fun x _ => impl_allWithin.clo a1 a2 w.heap.size (w.heap.size + 1) _ (by simp; omega) (by simp) (by simp) (by simp) x))
  have HE := Aside0.mk (show (l0.all fun n => decide (a1 ≤ n) && decide (n ≤ a2)) = !(l0.any fun n => !(decide (a1 ≤ n) && decide (n ≤ a2))) by rw [List.not_any_eq_all_not]; simp)
  rw [HE.out]
  generalize (l0.any fun n => !(decide (a1 ≤ n) && decide (n ≤ a2))) = b at HC ⊢
  clear eg
  go_enter Try.func33, Try.ntmps33
  go_wp2_with (go_at_call 49; refine HC.out.mono ?_; rintro e w' ⟨rfl, hb'⟩)
  go_ret
  exact ⟨rfl, (((Below.refl _ w).alloc (Nat.le_refl _) _).alloc (by simp) _).trans (hb'.mono (by simp; omega))⟩

/-! ### impl_GoodItems: function 12 -/
def impl_GoodItems.f (l0 : List Int) : Option (Bool) := if (l0.length : Int) ≤ 9 then ((impl_allWithin.f l0 1 20).bind fun t228 => (some t228)) else (some false)
set_option maxHeartbeats 8000000 in
set_option maxRecDepth 100000 in
theorem impl_GoodItems.calls (A0 : Option Addr) (c0 : Nat) (l0 : List Int) (r : Bool) (w : World) (hr0 : Kd.C (Kd.int .i64) w A0 l0.length l0) (hc0 : l0.length ≤ c0) (h : impl_GoodItems.f l0 = some r) :
    Calls Try.prog 12 #[.slice A0 l0.length c0] w fun e w' => e = .returned (.bool r) ∧ Below w.heap.size w w' := by
  have HR0 := Aside0.mk hr0
  have HC0 := Aside0.mk hc0
  clear hr0 hc0
  have HB := Aside0.mk (Below.refl w.heap.size w)
  have H : (if (l0.length : Int) ≤ 9 then ((impl_allWithin.f l0 1 20).bind fun t228 => (some t228)) else (some false)) = some r := h
  clear h
  by_cases c2 : (l0.length : Int) ≤ 9
  · rw [if_pos c2] at H
    have c2b0 : decide ((l0.length : Int) ≤ 9) = true := decide_eq_true c2
    have c2b1 : decide (l0.length ≤ 9) = true := decide_eq_true (by omega)
    clear c2
    replace H := Option.bind_eq_some_iff.mp H
    obtain ⟨t228, A30, H⟩ := H
    replace H : (some t228) = some r := H
    have A3 := Aside0.mk A30
    clear A30
    obtain rfl := Option.some.inj H
    go_enter Try.func12, Try.ntmps12
    go_wp2_with (first | (go_at_call 33; (with_reducible refine (impl_allWithin.calls _ _ l0 1 20 t228 _ ?side1 ?side2 A3.out).mono ?_); (case side1 => repeat (first | exact HR0.out | (with_reducible refine Kd.C_alloc ?_ _) | (with_reducible refine Kd.C_drewN ?_ _) | (with_reducible refine Kd.C_drew ?_))); (case side2 => exact HC0.out); rintro e w4 ⟨rfl, hb⟩; have n0_ := Aside0.mk (below_step (by repeat (first | (with_reducible first | exact HB.out | apply below_alloc | apply pw_below_drewN | apply below_drew1) | exact HB.out)) hb); clear HB; have HB := n0_; clear n0_; (try clear hb); (try clear hb2); (try clear hk); (try clear hi)))
    go_ret
    exact ⟨by first | rfl | (simp [errW_none, errW_some] <;> rfl) | (simp [*, errW_none, errW_some] <;> rfl), by repeat (first | (with_reducible first | exact HB.out | apply below_alloc | apply pw_below_drewN | apply below_drew1) | exact HB.out)⟩
  · rw [if_neg c2] at H
    have c2b0 : decide ((l0.length : Int) ≤ 9) = false := decide_eq_false c2
    have c2b1 : decide (l0.length ≤ 9) = false := decide_eq_false (by omega)
    clear c2
    obtain rfl := Option.some.inj H
    go_enter Try.func12, Try.ntmps12
    go_wp2
    go_ret
    exact ⟨by first | rfl | (simp [errW_none, errW_some] <;> rfl) | (simp [*, errW_none, errW_some] <;> rfl), by repeat (first | (with_reducible first | exact HB.out | apply below_alloc | apply pw_below_drewN | apply below_drew1) | exact HB.out)⟩

/-! ### impl_rank: function 40 -/
open Go.Shelf in
def impl_rank.lay_ren : Go.Shelf.Ren := ⟨fun | 20 => 80 | n => n, fun | 24 => 3 | 22 => 22 | 3 => 3 | 25 => 50 | 4 => 4 | 0 => 0 | n => n, fun | n => n⟩
theorem impl_rank.lay : Go.Proofs.SlLaysF.n20 Try.prog impl_rank.lay_ren := {
  mixed := by kernel_rfl
  f20 := ⟨Try.f80.name, by decide, Try.func80.trans (congrArg some (by kernel_rfl))⟩
  t0 := Try.underlying0
  a0 := Try.isAgg0
  z0 := Try.sizeOf0
  v0 := Try.zeroValue0
  t3 := Try.underlying3
  a3 := Try.isAgg3
  z3 := Try.sizeOf3
  v3 := Try.zeroValue3
  t4 := Try.underlying4
  a4 := Try.isAgg4
  z4 := Try.sizeOf4
  v4 := Try.zeroValue4
  t22 := Try.underlying22
  a22 := Try.isAgg22
  z22 := Try.sizeOf22
  v22 := Try.zeroValue22
  a24 := Try.isAgg3
  z24 := Try.sizeOf3
  t25 := Try.underlying50
  a25 := Try.isAgg50
  z25 := Try.sizeOf50
  v25 := Try.zeroValue50 }

def impl_rank.ix {n : Nat} : Fin n → Int := fun i => (i.val : Int)
def impl_rank.cf {n : Nat} (l0 : List Int) : Fin n → Fin n → Int := fun i k => wrap64 (rd l0 (k.val : Int) - rd l0 (i.val : Int))
def impl_rank.up (n : Nat) : Array (Fin (n + 1)) := Array.ofFn id
def impl_rank.ranked (l0 : List Int) (n : Nat) : List Int := (Sort.insertionSort (ltOf (impl_rank.cf (n := n + 1) l0)) (impl_rank.up n) 0 (n + 1)).toList.map impl_rank.ix
def impl_rank.f (l0 : List Int) : Option (List Int) := match l0.length with
  | 0 => some []
  | n + 1 => if n < 9 then some (impl_rank.ranked l0 n) else none
theorem impl_rank.cmp (Bs : Nat) (A0 : Option Addr) (c0 : Nat) (l0 : List Int) (W : World) (hb : W.cell? ⟨Bs, 0, none⟩ = some (.slice A0 l0.length c0)) (hr : Kd.C (Kd.int .i64) W A0 l0.length l0) (x y : Int) (hx0 : 0 ≤ x) (hx1 : x < (l0.length : Int)) (hy0 : 0 ≤ y) (hy1 : y < (l0.length : Int)) :
    Calls Try.prog 53 #[.int .i64 x, .int .i64 y, .pointer (some ⟨Bs, 0, none⟩)] W fun e w' => e = .returned (.int .i64 (wrap64 (rd l0 y - rd l0 x))) ∧ ∃ q, w' = W.drewN q := by
  obtain ⟨ad, e, cx⟩ := Kd.at_int hr x hx0 hx1
  cases e
  obtain ⟨ad2, e2, cy⟩ := Kd.at_int hr y hy0 hy1
  obtain rfl : ad = ad2 := by injection e2
  clear e2 hr
  have p0 := eq_true hx0
  have p1 := eq_true hx1
  have p2 := eq_true hy0
  have p3 := eq_true hy1
  have p4 : decide (0 ≤ x) = true := decide_eq_true hx0
  have p5 : decide (x < (l0.length : Int)) = true := decide_eq_true hx1
  have p6 : decide (0 ≤ y) = true := decide_eq_true hy0
  have p7 : decide (y < (l0.length : Int)) = true := decide_eq_true hy1
  clear hx0 hx1 hy0 hy1
  go_enter Try.func53, Try.ntmps53
  go_wp2
  go_quiet (fail)
  go_wp2
  go_ret
  exact ⟨rfl, nq, rfl⟩
theorem impl_rank.up_map (n : Nat) : ((impl_rank.up n).toList.map impl_rank.ix).length = n + 1 := by simp [impl_rank.up]
open Go.Sort Go.Shelf in
theorem impl_rank.sorts (Bs : Nat) (A0 : Option Addr) (c0 : Nat) (l0 : List Int) (m : Nat) (hm : l0.length = m + 1) (g cap : Nat) (e base : Nat) (ok : Nat → Prop) (w W : World) (hb : W.cell? ⟨Bs, 0, none⟩ = some (.slice A0 l0.length c0)) (hBl : Bs < W.heap.size) (hBg : Bs ≠ g) (hg : w.heap.size ≤ g) (hr : ∀ W', KeepBut W W' g none → Kd.C (Kd.int .i64) W' A0 l0.length l0) (ho : Kd.R (Kd.int .i64) e W base ok (.slice (some ⟨g, 0, none⟩) (m + 1) cap) ((impl_rank.up m).toList.map impl_rank.ix)) (hB : Below w.heap.size w W) (hs : m < 4611686018427387903) :
    Calls Try.prog 80 #[.slice (some ⟨g, 0, none⟩) (m + 1) cap, .int .i64 0, .int .i64 ((m + 1 : Nat) : Int), .func (.func 53) #[] #[.pointer (some ⟨Bs, 0, none⟩)]] W fun e' w' => e' = .returned (.tuple #[]) ∧ Kd.R (Kd.int .i64) e w' base ok (.slice (some ⟨g, 0, none⟩) (m + 1) cap) (impl_rank.ranked l0 m) ∧ Below w.heap.size w w' := by
  have h0 : RowAt (α := Fin (m + 1)) impl_rank.ix e W w g (m + 1) cap base ok (impl_rank.up m) := RowAt.start (holds_of_R ho) ho hB
  have hz : (impl_rank.up m).size = m + 1 := by simp [impl_rank.up]
  have eg : ∀ args w, (callFunc 53 args).run Try.prog w = .ok (.enter 53 args) w := enters_of Try.func53 (by kernel_rfl) rfl
  have hcmp : CmpReads Try.prog 53 #[.pointer (some ⟨Bs, 0, none⟩)] (encF (α := Fin (m + 1)) impl_rank.ix) (impl_rank.cf (n := m + 1) l0) g 0 (impl_rank.up m).size W := by
    intro q os dk hk x y
    have hw := h0.world hg q dk os hk
    exact impl_rank.cmp Bs A0 c0 l0 _ ((cell_keep hw hBl hBg).trans hb) (hr _ hw) (x.val : Int) (y.val : Int) (by omega) (by have := x.isLt; omega) (by omega) (by have := y.isLt; omega)
  have hcon := Any.insertionSortCmpFunc_one impl_rank.lay (encF (α := Fin (m + 1)) impl_rank.ix) (fun _ => rfl) (impl_rank.cf (n := m + 1) l0) 53 #[.pointer (some ⟨Bs, 0, none⟩)] g 0 cap 0 (m + 1) (impl_rank.up m) W eg hcmp (holds_of_R ho) (Nat.zero_le _) (by omega) (by omega)
  rw [hz] at hcon
  change Calls Try.prog 80 _ _ _ at hcon
  refine hcon.mono ?_
  rintro e' w' ⟨rfl, q, rfl⟩
  have hsz : (Sort.insertionSort (ltOf (impl_rank.cf (n := m + 1) l0)) (impl_rank.up m) 0 (m + 1)).size = (impl_rank.up m).size := size_insSort _ _ _ _
  have h1 := h0.all hg hsz
  exact ⟨rfl, by (with_reducible repeat (first | apply Kd.R_drewN | apply Kd.R_drew)); exact h1.row, by repeat (first | exact h1.below | apply pw_below_drewN)⟩
set_option maxHeartbeats 4000000 in
set_option maxRecDepth 100000 in
theorem impl_rank.sorts0 (A1 : Option Addr) (c1 : Nat) (fn : Value) (W : World) : Calls Try.prog 80 #[.slice A1 0 c1, .int .i64 0, .int .i64 ((0 : Nat) : Int), fn] W fun e w' => e = .returned (.tuple #[]) ∧ w' = W := by
  rw [show (((0 : Nat) : Int)) = 0 from rfl]
  go_enter Try.func80, Try.ntmps80
  go_wp2
  go_loopg [8] 1 (fun gk v8 w' => v8 = .int .i64 1 ∧ w' = W)
  case atStart => exact ⟨rfl, rfl⟩
  case round =>
    obtain ⟨rfl, rfl⟩ := hrel
    go_wp2
    go_end0
    exact ⟨rfl, rfl⟩
set_option maxHeartbeats 4000000 in
set_option maxRecDepth 100000 in
theorem impl_rank.stable (v fn : Value) (N : Nat) (hN : N ≤ 9) (Q : World → Prop) (W : World) (hI : Calls Try.prog 80 #[v, .int .i64 0, .int .i64 (N : Int), fn] W fun e w' => e = .returned (.tuple #[]) ∧ Q w') : Calls Try.prog 65 #[v, .int .i64 (N : Int), fn] W fun e w' => e = .returned (.tuple #[]) ∧ Q w' := by
  have d1 : decide ((20 : Int) ≤ (N : Int)) = false := decide_eq_false (by omega)
  have d2 : ((20 : Int) ≤ (N : Int)) = False := eq_false (by omega)
  have d3 : decide (20 ≤ N) = false := decide_eq_false (by omega)
  have d4 : (20 ≤ N) = False := eq_false (by omega)
  have d5 : decide ((20 : Int) < (N : Int)) = false := decide_eq_false (by omega)
  have d6 : ((20 : Int) < (N : Int)) = False := eq_false (by omega)
  have d7 : decide (20 < N) = false := decide_eq_false (by omega)
  have d8 : (20 < N) = False := eq_false (by omega)
  clear hN
  go_enter Try.func65, Try.ntmps65
  go_wp2
  go_loopg [7, 8] 1 (fun gk v7 v8 w' => v7 = .int .i64 0 ∧ v8 = .int .i64 20 ∧ w' = W)
  case atStart => exact ⟨rfl, rfl, rfl⟩
  case round =>
    obtain ⟨rfl, rfl, rfl⟩ := hrel
    go_wp2_with fail
    go_at_call 80
    refine hI.mono ?_
    rintro e w1 ⟨rfl, hq⟩
    have HQ := Aside0.mk hq
    clear hq
    go_wp2
    go_loopg [6] 1 (fun gk v6 w' => v6 = .int .i64 20 ∧ w' = w1)
    case atStart => exact ⟨rfl, rfl⟩
    case round =>
      obtain ⟨rfl, rfl⟩ := hrel
      go_wp2
      go_end0
      exact ⟨rfl, HQ.out⟩
set_option maxHeartbeats 4000000 in
set_option maxRecDepth 100000 in
theorem impl_rank.sf (A1 : Option Addr) (c1 : Nat) (fn : Value) (N : Nat) (hN : N ≤ 9) (Q : World → Prop) (W : World) (hI : Calls Try.prog 80 #[.slice A1 N c1, .int .i64 0, .int .i64 (N : Int), fn] W fun e w' => e = .returned (.tuple #[]) ∧ Q w') : Calls Try.prog 52 #[.slice A1 N c1, fn] W fun e w' => e = .returned (.tuple #[]) ∧ Q w' := by
  have hS := impl_rank.stable _ fn N hN Q W hI
  clear hI hN
  go_enter Try.func52, Try.ntmps52
  go_wp2_with fail
  go_at_call 65
  refine hS.mono ?_
  rintro e w1 ⟨rfl, hq⟩
  have HQ := Aside0.mk hq
  clear hq
  go_wp2
  go_end0
  exact ⟨rfl, HQ.out⟩
def impl_rank.upL (i : Nat) : List Int := (List.range i).map fun (j : Nat) => (j : Int)
theorem impl_rank.upL_succ (i : Nat) : impl_rank.upL (i + 1) = impl_rank.upL i ++ [(i : Int)] := by
  unfold impl_rank.upL
  rw [List.range_succ, List.map_append]
  rfl
theorem impl_rank.upL_length (i : Nat) : (impl_rank.upL i).length = i := by simp [impl_rank.upL]
theorem impl_rank.upL_up (m : Nat) : (impl_rank.up m).toList.map impl_rank.ix = impl_rank.upL (m + 1) := by
  apply List.ext_getElem
  · rw [impl_rank.up_map, impl_rank.upL_length]
  · intro i h1 h2
    rw [List.getElem_map, Array.getElem_toList]
    simp only [impl_rank.up, impl_rank.upL, impl_rank.ix, Array.getElem_ofFn, List.getElem_map, List.getElem_range, id]
set_option maxHeartbeats 8000000 in
set_option maxHeartbeats 4000000 in
set_option maxRecDepth 100000 in
theorem impl_rank.calls (A0 : Option Addr) (c0 : Nat) (l0 : List Int) (r : List Int) (w : World) (hr0 : Kd.C (Kd.int .i64) w A0 l0.length l0) (hc0 : l0.length ≤ c0) (h : impl_rank.f l0 = some r) :
    Calls Try.prog 40 #[.slice A0 l0.length c0] w fun e w' => ∃ v0_ : Value, e = .returned (v0_) ∧ Kd.R (Kd.int .i64) 3 w' w.heap.size (fun _ => True) v0_ r ∧ Below w.heap.size w w' := by
  have hl9 : l0.length ≤ 9 := by
    unfold impl_rank.f at h
    split at h
    · omega
    · split at h
      · omega
      · cases h
  have H9 := Aside0.mk hl9
  have HR0 := Aside0.mk hr0
  have H := Aside0.mk h
  clear hr0 hc0 h hl9
  go_enter Try.func40, Try.ntmps40
  go_wp2_with (first | ((with_reducible refine gate_dst (N := 5) rfl ?_); refine Kd.R_lit (Kd.int .i64) _ 3 ?hg (N := 5) ?hd (xs := ([] : List Int)) (inner := []) (ok := fun _ => True) (okp := fun _ => True) ?hr ?hp (fun _ hk => hk) trivial (Below.refl _ _) (Nat.le_refl _) (by simp) ?_; (case hd => rfl); (case hg => rfl); (case hr => first | (go_simp; done) | (go_simp; rfl)); (case hp => exact (Reps.none _ _)); intro v1 w1 ho1 hb1 hg_ hnew_; clear hg_ hnew_; obtain ⟨wa, hwa⟩ : ∃ wa : World, wa = w.alloc (.cells #[.slice A0 l0.length c0] 22) := ⟨_, rfl⟩; rw [← hwa] at ho1 hb1; have hsz : wa.heap.size = w.heap.size + 1 := (by rw [hwa]; simp); have hbx : wa.cell? ⟨w.heap.size, 0, none⟩ = some (.slice A0 l0.length c0) := (by rw [hwa]; simp); have hbw : Below w.heap.size w wa := (by rw [hwa]; exact (Below.refl w.heap.size w).alloc (Nat.le_refl _) _); have HO := Aside0.mk ho1; have HB := Aside0.mk hb1; have HSZ := Aside0.mk hsz; have HBX := Aside0.mk hbx; have HBW := Aside0.mk hbw; have k0 : w1.cell? ⟨w.heap.size, 0, none⟩ = some (.slice A0 l0.length c0) := (hb1.cell (p := ⟨w.heap.size, 0, none⟩) (by show w.heap.size < _; omega)).trans hbx; clear ho1 hb1 hsz hbx hbw hwa))
  go_loopg [3, 8] (l0.length + 1) (fun gk v3 v8 w' => ∃ (i : Nat), v8 = .int .i64 (i : Int) ∧ Aside0 (i ≤ l0.length ∧ l0.length - i < gk) ∧ Aside0 (Kd.R (Kd.int .i64) 3 w' wa.heap.size (fun _ => True) v3 (impl_rank.upL i)) ∧ Aside0 (Below wa.heap.size wa w') ∧ Aside0 (w'.cell? ⟨w.heap.size, 0, none⟩ = some (.slice A0 l0.length c0)))
  case atStart => exact ⟨0, rfl, ⟨by omega, by omega⟩, HO, HB, ⟨k0⟩⟩
  case round =>
    clear HO HB k0
    obtain ⟨i, rfl, HI, HO, HB, HX⟩ := hrel
    by_cases c1 : i < l0.length
    · have HC := Aside0.mk c1
      have d1 : decide ((i : Int) < (l0.length : Int)) = true := decide_eq_true (by omega)
      have d2 : ((i : Int) < (l0.length : Int)) = True := eq_true (by omega)
      have d3 : decide (i < l0.length) = true := decide_eq_true c1
      have d4 : (i < l0.length) = True := eq_true c1
      have HUP := Aside0.mk (show wrap64 ((i : Int) + 1) = ((i + 1 : Nat) : Int) by have := H9.out; unfold wrap64; omega)
      clear c1
      go_wp2_with (first | ((with_reducible refine gate_builtin (b := .append) (xs := #[.tmp 11, .tmp 13]) rfl ?_); at_builtin; refine Kd.R_append (Kd.int .i64) (w0 := wa) wa.heap.size rfl (.tmp 11) (.tmp 13) 22 3 (.int .i64 0) 8 rfl Try.underlying22 info3 rfl (by decide) (by omega) u3 (impl_rank.upL i) (i : Int) [.int .i64 (i : Int)] (fun _ => True) (fun _ => False) rfl rfl ?aP (fun _ hk => hk.elim) ?aF ?aO ?aB ?aS ?aL ?_; (case aP => exact rfl); (case aB => exact (by repeat (first | (with_reducible first | exact HB.out | apply below_alloc | apply pw_below_drewN | apply below_drew1) | exact HB.out))); (case aF => exact (fun _ _ => trivial)); (case aO => exact (by (with_reducible repeat (first | apply Kd.R_alloc | apply Kd.R_drewN | apply Kd.R_drew)); exact HO.out)); (case aS => exact (below_size (by repeat (first | (with_reducible first | exact HB.out | apply below_alloc | apply pw_below_drewN | apply below_drew1) | exact HB.out)))); (case aL => have := HI.out; have := H9.out; rw [impl_rank.upL_length]; omega); intro v2 w2 ho hb hg hat; rw [← impl_rank.upL_succ] at ho; have HO2 := Aside0.mk ho; have HB2 := Aside0.mk hb; clear ho hb hg hat))
      go_roundg (l0.length - i)
      case measure => have := HI.out; have := HC.out; omega
      case rel => exact ⟨i + 1, by first | rfl | (rw [← HUP.out]), ⟨by have := HC.out; omega, by have := HC.out; omega⟩, HO2, HB2, ⟨(HB2.out.cell (p := ⟨w.heap.size, 0, none⟩) (by have := HSZ.out; show w.heap.size < _; omega)).trans HBX.out⟩⟩
    · obtain rfl : i = l0.length := by have := HI.out; omega
      have d1 : decide ((l0.length : Int) < (l0.length : Int)) = false := decide_eq_false (by omega)
      have d2 : decide (l0.length < l0.length) = false := decide_eq_false c1
      have HR1 := Aside0.mk (Kd.C_below HR0.out HBW.out)
      clear c1
      have hcall : ∃ A1 c1, u3 = .slice A1 l0.length c1 ∧ Calls Try.prog 80 #[.slice A1 l0.length c1, .int .i64 0, .int .i64 (l0.length : Int), .func (.func 53) #[] #[.pointer (some ⟨w.heap.size, 0, none⟩)]] wr fun e w' => e = .returned (.tuple #[]) ∧ (Kd.R (Kd.int .i64) 3 w' wa.heap.size (fun _ => True) u3 r ∧ Below wa.heap.size wa w') := by
        have h := H.out
        unfold impl_rank.f at h
        split at h
        case h_1 hz =>
          obtain rfl := Option.some.inj h
          obtain ⟨A1, c1, e⟩ := Kd.R_slice HO.out
          rw [impl_rank.upL_length] at e
          refine ⟨A1, c1, e, ?_⟩
          have hR := HO.out
          rw [hz] at hR ⊢
          refine (impl_rank.sorts0 A1 c1 _ wr).mono ?_
          rintro e' w' ⟨rfl, rfl⟩
          exact ⟨rfl, hR, HB.out⟩
        case h_2 m hm =>
          split at h
          case isFalse => cases h
          case isTrue hlt =>
          obtain rfl := Option.some.inj h
          have hR := HO.out
          rw [hm, ← impl_rank.upL_up] at hR
          obtain ⟨g, cap, e, _, _, _⟩ := Kd.R_form hR (by rw [impl_rank.up_map]; omega)
          rw [impl_rank.up_map] at e
          subst e
          have hgb := Kd.R_base hR g (by simp [Value.ownBlock])
          have hsz := HSZ.out
          have hwsz := HB.out.size
          refine ⟨_, _, by rw [hm], ?_⟩
          rw [hm]
          have hs := impl_rank.sorts w.heap.size A0 c0 l0 m hm g cap 3 wa.heap.size (fun _ => True) wa wr HX.out (by omega) (by omega) hgb (Kd.C_foot_came (Kd.heap_int .i64) HR1.out HB.out hgb) hR HB.out (by omega)
          exact hs
      obtain ⟨A1, c1, e, hcall⟩ := hcall
      have HCALL := Aside0.mk (impl_rank.sf A1 c1 _ l0.length H9.out _ wr hcall)
      clear hcall
      rw [e] at *
      go_wp2_with fail
      go_at_call 52
      refine HCALL.out.mono ?_
      rintro e2 w2 ⟨rfl, hR, hb⟩
      have HR2 := Aside0.mk hR
      have HB2 := Aside0.mk hb
      clear hR hb
      go_wp2
      go_ret
      exact ⟨_, rfl, Kd.R_lower HR2.out (by have := HSZ.out; omega), HBW.out.trans (HB2.out.mono (by have := HSZ.out; omega))⟩

/-! ### slices_IndexFunc_int_int_56: function 56 -/
set_option maxHeartbeats 4000000 in
theorem slices_IndexFunc_int_int_56.any (A0 : Option Addr) (c0 : Nat) (l0 : List (List Int)) (p : (List Int) → Bool) (g : Nat) (lb : Array Value) (eg : ∀ args w, (callFunc g args).run Try.prog w = .ok (.enter g args) w) (w : World) (hr0 : Kd.C (Kd.slice 3 (Kd.int .i64)) w A0 l0.length l0)
    (hp : ∀ x, x ∈ l0 → ∀ (A_ : Option Addr) (c_ : Nat), x.length ≤ c_ → Kd.C (Kd.int .i64) w A_ x.length x → PredB Try.prog g lb #[.slice A_ x.length c_] (p x) w) :
    Calls Try.prog 56 #[.slice A0 l0.length c0, .func (.func g) #[] lb] w fun e w' => e = .returned (.int .i64 (idxP p l0)) ∧ Below w.heap.size w w' := by
  have HR0 := Aside0.mk hr0
  have HP := Aside0.mk hp
  clear hr0 hp
  go_enter Try.func56, Try.ntmps56
  go_wp2
  go_loopg [5, 8] l0.length (fun gk _ v8 w' => ∃ x8 : Int, v8 = .int .i64 x8 ∧ Aside0 (0 ≤ x8 ∧ x8 ≤ l0.length ∧ (l0.length : Int) - x8 ≤ gk) ∧ Aside0 (Below w.heap.size w w') ∧ Aside0 (∀ j, j < x8.toNat → p (l0.getD j []) = false))
  case atStart => exact ⟨0, rfl, ⟨by omega, by omega, by omega⟩, ⟨Below.refl _ _⟩, ⟨fun j hj => absurd hj (Nat.not_lt_zero _)⟩⟩
  case round =>
    obtain ⟨x8, rfl, HI, HB, HJ⟩ := hrel
    by_cases c : x8 < (l0.length : Int)
    · have cb : decide (x8 < (l0.length : Int)) = true := decide_eq_true c
      have CC := Aside0.mk c
      obtain ⟨ad, A_, c_, e, hx_0, hl_, hg_⟩ := at_L1 HR0.out x8 HI.out.1 c
      cases e
      replace hx_0 := (HB.out.cell (World.block_lt_of_cell? w _ hx_0)).trans hx_0
      have p0 := eq_true HI.out.1
      have q0 := eq_true c
      have p1 : decide (0 ≤ x8) = true := decide_eq_true HI.out.1
      have hcall := HP.out (rd_L1 l0 x8) (getD_mem [] (by have := HI.out; omega)) A_ c_ hl_ hg_ wr HB.out
      have HG_ := Aside0.mk hg_; clear hg_
      clear c
      cases hq : p (rd_L1 l0 x8) with
      | true =>
        have HQ := Aside0.mk hq
        rw [hq] at hcall
        clear hq
        go_wp2_with (go_at_fn g; refine hcall.mono ?_; rintro e w' ⟨rfl, hb'⟩)
        go_ret
        refine ⟨?_, hb'⟩
        have h1 := HI.out
        have h2 := CC.out
        rw [idxP_hit (k := x8.toNat) [] (by omega) HQ.out HJ.out, Int.toNat_of_nonneg h1.1]
        rfl
      | false =>
        have HQ := Aside0.mk hq
        rw [hq] at hcall
        clear hq
        go_wp2_with (go_at_fn g; refine hcall.mono ?_; rintro e w' ⟨rfl, hb'⟩)
        go_roundg (l0.length - (x8.toNat + 1))
        case measure => have h1 := HI.out; have h2 := CC.out; omega
        case rel =>
          have h1 := HI.out
          have h2 := CC.out
          refine ⟨x8 + 1, ?_, ⟨by omega, by omega, by omega⟩, ⟨hb'⟩, ⟨fun j hj => ?_⟩⟩
          · first | rfl | rw [wrap_up h1.1 h2 (Kd.C_max HR0.out)]
          · by_cases e : j = x8.toNat
            · subst e; exact HQ.out
            · exact HJ.out j (by omega)
    · have cb : decide (x8 < (l0.length : Int)) = false := decide_eq_false c
      have CC := Aside0.mk c
      clear c
      go_wp2
      go_ret
      refine ⟨?_, HB.out⟩
      have h1 := HI.out
      have h2 := CC.out
      rw [idxP_miss [] (fun j hj => HJ.out j (by omega))]
      rfl

end Go.Proofs.Ytojoglgjfocgiaa.GLFitSorted
