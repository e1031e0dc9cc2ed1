-- Written by a program of this session (gprint.py), over the kit's print: not trusted: Lean checks it.
import Derived.Test.YtccnpnlmihcmlaaGLNewJob0
import Derived.Test.YtccnpnlmihcmlaaGLNewJob2
import Derived.Test.YtccnpnlmihcmlaaGLNewJob3
namespace Go.Proofs.Ytccnpnlmihcmlaa.GLNewJob
open Go.RowKit Go.Proofs.YtccnpnlmihcmlaaW.PrintWords Go.Proofs.YtccnpnlmihcmlaaW.PrintLast Go.Proofs.YtccnpnlmihcmlaaW.PrintMore Go.Proofs.YtccnpnlmihcmlaaW.PrintOwn
attribute [local go_sem] max2_int min2_int max_two min_two max_three min_three max_four min_four   -- for this text's walks alone
set_option linter.unusedVariables false
set_option linter.unusedSimpArgs false

/-! ### spec_l10Next: function 71 -/
mutual
def spec_l10Next.l0 : Nat → List Int → List Int → List Int → Int → Int → Option (Int × Int)
  | 0, _, _, _, _, _ => none
  | k + 1, x0, x1, x9, x10, x11 => if x11 < x10 then (if 0 ≤ x11 then (if x11 < (x9.length : Int) then (if (rd x9 x11) > 0 then (if x11 < (x0.length : Int) then (if (rd x0 x11) = 0 then ((spec_l10Spot.f k x0 (rd x9 x11)).bind fun t145 => (some (t145, x11))) else (spec_l10Next.l0 k x0 x1 x9 x10 (wrap64 (x11 + 1)))) else (none)) else (spec_l10Next.l0 k x0 x1 x9 x10 (wrap64 (x11 + 1)))) else (none)) else (none)) else (spec_l10Next.l1 k x0 x1 x0 (x0.length : Int) 0)
def spec_l10Next.l1 : Nat → List Int → List Int → List Int → Int → Int → Option (Int × Int)
  | 0, _, _, _, _, _ => none
  | k + 1, x0, x1, x31, x32, x33 => if x33 < x32 then (if 0 ≤ x33 then (if x33 < (x31.length : Int) then (if (rd x31 x33) > 0 then (if x33 < (x1.length : Int) then (if (rd x1 x33) = (rd x31 x33) then (spec_l10Next.l1 k x0 x1 x31 x32 (wrap64 (x33 + 1))) else ((spec_l10Spot.f k x0 0).bind fun t148 => (some (x33, t148)))) else (none)) else (spec_l10Next.l1 k x0 x1 x31 x32 (wrap64 (x33 + 1)))) else (none)) else (none)) else (some ((-1), 0))
end
def spec_l10Next.f (k : Nat) (l0 : List Int) (l1 : List Int) : Option (Int × Int) := spec_l10Next.l0 k l0 l1 l1 (l1.length : Int) 0
theorem spec_l10Next.mono_l : ∀ k, (∀ y0 y1 y2 y3 y4, LeO (spec_l10Next.l0 k y0 y1 y2 y3 y4) (spec_l10Next.l0 (k + 1) y0 y1 y2 y3 y4)) ∧ (∀ y0 y1 y2 y3 y4, LeO (spec_l10Next.l1 k y0 y1 y2 y3 y4) (spec_l10Next.l1 (k + 1) y0 y1 y2 y3 y4))
  | 0 => ⟨fun _ _ _ _ _ r h => by simp [spec_l10Next.l0] at h, fun _ _ _ _ _ r h => by simp [spec_l10Next.l1] at h⟩
  | k + 1 => by
    obtain ⟨ih0, ih1⟩ := spec_l10Next.mono_l k
    refine ⟨?_, ?_⟩
    · intro y0 y1 y2 y3 y4
      unfold spec_l10Next.l0
      repeat' first
      | (with_reducible exact ih0 _ _ _ _ _)
      | (with_reducible exact ih1 _ _ _ _ _)
      | (with_reducible exact spec_l10Spot.mono _ _ _)
      | (with_reducible exact LeO.refl _)
      | (with_reducible exact LeO.none _)
      | (with_reducible refine LeO.ite ?_ ?_)
      | (with_reducible refine LeO.bind ?_ (fun _ => ?_))
      | exact ih0 _ _ _ _ _
      | exact ih1 _ _ _ _ _
      | exact spec_l10Spot.mono _ _ _
      | exact LeO.none _
      | refine LeO.ite ?_ ?_
      | refine LeO.bind ?_ (fun _ => ?_)
    · intro y0 y1 y2 y3 y4
      unfold spec_l10Next.l1
      repeat' first
      | (with_reducible exact ih0 _ _ _ _ _)
      | (with_reducible exact ih1 _ _ _ _ _)
      | (with_reducible exact spec_l10Spot.mono _ _ _)
      | (with_reducible exact LeO.refl _)
      | (with_reducible exact LeO.none _)
      | (with_reducible refine LeO.ite ?_ ?_)
      | (with_reducible refine LeO.bind ?_ (fun _ => ?_))
      | exact ih0 _ _ _ _ _
      | exact ih1 _ _ _ _ _
      | exact spec_l10Spot.mono _ _ _
      | exact LeO.none _
      | refine LeO.ite ?_ ?_
      | refine LeO.bind ?_ (fun _ => ?_)
theorem spec_l10Next.mono : ∀ a0 a1 k, LeO (spec_l10Next.f k a0 a1) (spec_l10Next.f (k + 1) a0 a1) := by
  intro a0 a1 k
  obtain ⟨ih0, ih1⟩ := spec_l10Next.mono_l k
  unfold spec_l10Next.f
  repeat' first
      | (with_reducible exact ih0 _ _ _ _ _)
      | (with_reducible exact ih1 _ _ _ _ _)
      | (with_reducible exact spec_l10Spot.mono _ _ _)
      | (with_reducible exact LeO.refl _)
      | (with_reducible exact LeO.none _)
      | (with_reducible refine LeO.ite ?_ ?_)
      | (with_reducible refine LeO.bind ?_ (fun _ => ?_))
      | exact ih0 _ _ _ _ _
      | exact ih1 _ _ _ _ _
      | exact spec_l10Spot.mono _ _ _
      | exact LeO.none _
      | refine LeO.ite ?_ ?_
      | refine LeO.bind ?_ (fun _ => ?_)
set_option maxHeartbeats 8000000 in
set_option maxRecDepth 100000 in
theorem spec_l10Next.calls (k : Nat) (A0 : Option Addr) (c0 : Nat) (l0 : List Int) (A1 : Option Addr) (c1 : Nat) (l1 : List Int) (r1 : Int) (r2 : Int) (w : World) (hr0 : Kd.C (Kd.int .i64) w A0 l0.length l0) (hc0 : l0.length ≤ c0) (hr1 : Kd.C (Kd.int .i64) w A1 l1.length l1) (hc1 : l1.length ≤ c1) (h : spec_l10Next.f k l0 l1 = some (r1, r2)) :
    Calls Try.prog 71 #[.slice A0 l0.length c0, .slice A1 l1.length c1] w fun e w' => e = .returned (.agg #[.int .i64 r1, .int .i64 r2]) ∧ Below w.heap.size w w' := by
  have hu39 := Try.underlying39
  have HR0 := Aside0.mk hr0
  have HC0 := Aside0.mk hc0
  clear hr0 hc0
  have HR1 := Aside0.mk hr1
  have HC1 := Aside0.mk hc1
  clear hr1 hc1
  have HB := Aside0.mk (Below.refl w.heap.size w)
  have H : (spec_l10Next.l0 k l0 l1 l1 (l1.length : Int) 0) = some (r1, r2) := h
  clear h
  have H' := Aside0.mk H
  clear H
  go_enter Try.func71, Try.ntmps71
  go_wp2_with (first | ((with_reducible refine gate_dst (N := 4) rfl ?_); refine box_event ?hg (N := 4) ?hd (cs := #[.int .i64 0, .int .i64 0]) (t := 39) ?hr ?_; (case hd => rfl); (case hg => rfl); (case hr => first | (go_simp; done) | (go_simp; rfl)); intro gb142 hg w3 hbox hb; have n0_ := Aside0.mk (below_step (by repeat (first | (with_reducible first | exact HB.out | apply below_alloc | apply pw_below_drewN | apply below_drew1) | exact HB.out)) hb); have n1_ := Aside0.mk (hbox); have n2_ := Aside0.mk ((by rw [hg]; exact (below_size (by repeat (first | (with_reducible first | exact HB.out | apply below_alloc | apply pw_below_drewN | apply below_drew1) | exact HB.out))) : w.heap.size ≤ gb142)); have n3_ := Aside0.mk ((by rw [hg]; exact (below_size (by repeat (first | (with_reducible first | exact HB.out | apply below_alloc | apply pw_below_drewN | apply below_drew1) | exact HB.out))) : w.heap.size ≤ gb142)); clear HB; have HB := n0_; have BK142 := n1_; have GW142 := n2_; have GE142 := n3_; clear n0_ n1_ n2_ n3_; clear hb hbox hg))
  go_loopg [11] k (fun kq v11 w' => ∃ (x11_1 : Int) (x143000_1 : Int) (x143001_1 : Int), v11 = .int .i64 x11_1 ∧ Aside0 (spec_l10Next.l0 kq l0 l1 l1 (l1.length : Int) x11_1 = some (r1, r2)) ∧ Aside0 (kq ≤ k) ∧ Aside0 (w'.heap[gb142]? = some (.cells #[.int .i64 x143000_1, .int .i64 x143001_1] 39 (0, 0))) ∧ Aside0 (Below w.heap.size w w'))
  case atStart => exact ⟨(0), (0), (0), (by first | rfl | (simp; done) | (simp [*]; done)), H', ⟨Nat.le_refl _⟩, ⟨by (with_reducible repeat (first | refine blk_drewN ?_ _ | refine blk_drew ?_ | refine blk_alloc ?_ _)); exact BK142.out⟩, ⟨by repeat (first | (with_reducible first | exact HB.out | apply below_alloc | apply pw_below_drewN | apply below_drew1 | refine below_set ?_ GE142.out) | exact HB.out)⟩⟩
  case round =>
    clear H'
    try clear c1
    try clear p2
    obtain ⟨x11_1, x143000_1, x143001_1, rfl, HA, HK1, BK142, HB⟩ := hrel
    cases gk with
    | zero => exact absurd HA.out (by simp [spec_l10Next.l0])
    | succ k1 =>
      have H := HA.out
      clear HA
      simp only [spec_l10Next.l0] at H
      by_cases c4 : x11_1 < (l1.length : Int)
      · rw [if_pos c4] at H
        have c4b0 : decide (x11_1 < (l1.length : Int)) = true := decide_eq_true c4
        clear c4
        by_cases c5 : 0 ≤ x11_1
        · rw [if_pos c5] at H
          have c5b0 : decide (0 ≤ x11_1) = true := decide_eq_true c5
          clear c5
          by_cases c6 : x11_1 < (l1.length : Int)
          · rw [if_pos c6] at H
            have c6b0 : decide (x11_1 < (l1.length : Int)) = true := decide_eq_true c6
            clear c6
            by_cases c7 : (rd l1 x11_1) > 0
            · rw [if_pos c7] at H
              have c7b0 : decide (0 < (rd l1 x11_1)) = true := decide_eq_true c7
              clear c7
              by_cases c8 : x11_1 < (l0.length : Int)
              · rw [if_pos c8] at H
                have c8b0 : decide (x11_1 < (l0.length : Int)) = true := decide_eq_true c8
                clear c8
                by_cases c9 : (rd l0 x11_1) = 0
                · rw [if_pos c9] at H
                  have c9b0 : ((rd l0 x11_1) == 0) = true := beq_iff_eq.mpr c9
                  have c9b1 : ((rd l0 x11_1) != 0) = false := bne_eq_false_iff_eq.mpr c9
                  clear c9
                  replace H := Option.bind_eq_some_iff.mp H
                  obtain ⟨t145, A100, H⟩ := H
                  replace H : (some (t145, x11_1)) = some (r1, r2) := H
                  have A10 := Aside0.mk A100
                  clear A100
                  simp only [Option.some.injEq, Prod.mk.injEq] at H
                  obtain ⟨rfl, rfl⟩ := H
                  have p143 : 0 ≤ (x11_1 : Int) := of_decide_eq_true (by first | (with_reducible assumption) | assumption)
                  have q143 : x11_1 < (l1.length : Int) := of_decide_eq_true (by first | (with_reducible assumption) | assumption)
                  obtain ⟨ad143, e143, hx143_0⟩ := Kd.at_int HR1.out x11_1 p143 q143
                  cases e143
                  replace hx143_0 := (HB.out.cell (World.block_lt_of_cell? w _ hx143_0)).trans hx143_0
                  replace p143 := eq_true p143
                  replace q143 := eq_true q143
                  have p144 : 0 ≤ (x11_1 : Int) := of_decide_eq_true (by first | (with_reducible assumption) | assumption)
                  have q144 : x11_1 < (l0.length : Int) := of_decide_eq_true (by first | (with_reducible assumption) | assumption)
                  obtain ⟨ad144, e144, hx144_0⟩ := Kd.at_int HR0.out x11_1 p144 q144
                  cases e144
                  replace hx144_0 := (HB.out.cell (World.block_lt_of_cell? w _ hx144_0)).trans hx144_0
                  replace p144 := eq_true p144
                  replace q144 := eq_true q144
                  go_wp2_with (first | ((with_reducible refine gate_callee (f := 84) rfl ?_); refine goesL_ (some 27) rfl rfl Try.func84 (by kernel_rfl) rfl #[.slice (some ad144) l0.length c0, .int .i64 (rd l1 x11_1)] rfl (by (try simp only [List.map_toArray, List.map_cons, List.map_nil]); first | done | rfl | (simp only [List.length_drop, List.length_take]; rfl)) ?_; (with_reducible refine (spec_l10Spot.calls k1 _ _ l0 (rd l1 x11_1) t145 _ ?side1 ?side2 A10.out).mono ?_); (case side1 => repeat (first | exact (Kd.C_below HR0.out HB.out) | (with_reducible refine Kd.C_alloc ?_ _) | (with_reducible refine Kd.C_drewN ?_ _) | (with_reducible refine Kd.C_drew ?_))); (case side2 => exact HC0.out); rintro e w' ⟨rfl, ⟨nd, rfl⟩⟩; refine ⟨_, rfl, ?_⟩; (try (rw [drewN_self wr]; generalize hq_ : World.drewN wr _ = wr; have n0_ : Aside0 (wr.heap[gb142]? = some (.cells #[.int .i64 x143000_1, .int .i64 x143001_1] 39 (0, 0))) := ⟨by rw [← hq_]; exact (by (with_reducible repeat (first | refine blk_drewN ?_ _ | refine blk_drew ?_ | refine blk_alloc ?_ _)); exact BK142.out)⟩; have n1_ : Aside0 (Below w.heap.size w wr) := ⟨by rw [← hq_]; exact (by repeat (first | (with_reducible first | exact HB.out | apply below_alloc | apply pw_below_drewN | apply below_drew1 | refine below_set ?_ GE142.out) | exact HB.out))⟩; clear BK142 HB hq_; have BK142 := n0_; have HB := n1_; clear n0_ n1_)); have hcz11_0 : wr.cell? ⟨gb142, 0, none⟩ = some (.int .i64 x143000_1) := (blk_cell BK142.out 0).trans rfl; have hcz11_1 : wr.cell? ⟨gb142, 1, none⟩ = some (.int .i64 x143001_1) := (blk_cell BK142.out 1).trans rfl; have hfz11_0 := blk_frozen BK142.out 0; have hfz11_1 := blk_frozen BK142.out 1))
                  refine bodyPost_ret (results_cell_row rfl _ _ gb142 39 #[.int .i64 t145, .int .i64 x11_1] (0, 0) _ rfl (by (with_reducible repeat (first | refine blk_drewN ?_ _ | refine blk_drew ?_ | refine blk_alloc ?_ _)); refine blk_put (cs := #[.int .i64 t145, .int .i64 x143001_1]) ?_ 1 _ rfl; (with_reducible repeat (first | refine blk_drewN ?_ _ | refine blk_drew ?_ | refine blk_alloc ?_ _)); refine blk_put (cs := #[.int .i64 x143000_1, .int .i64 x143001_1]) ?_ 0 _ rfl; (with_reducible repeat (first | refine blk_drewN ?_ _ | refine blk_drew ?_ | refine blk_alloc ?_ _)); exact BK142.out) Try.underlying39 rfl (by kernel_rfl)) rfl ?_
                  exact ⟨by first | rfl | (simp [errW_none, errW_some] <;> rfl) | (simp [*, errW_none, errW_some] <;> rfl), by repeat (first | (with_reducible first | exact HB.out | apply below_alloc | apply pw_below_drewN | apply below_drew1 | refine below_set ?_ GE142.out) | exact HB.out)⟩
                · rw [if_neg c9] at H
                  have c9b0 : ((rd l0 x11_1) == 0) = false := beq_eq_false_iff_ne.mpr c9
                  have c9b1 : ((rd l0 x11_1) != 0) = true := bne_iff_ne.mpr c9
                  have H' := Aside0.mk H
                  clear H
                  have p143 : 0 ≤ (x11_1 : Int) := of_decide_eq_true (by first | (with_reducible assumption) | assumption)
                  have q143 : x11_1 < (l1.length : Int) := of_decide_eq_true (by first | (with_reducible assumption) | assumption)
                  obtain ⟨ad143, e143, hx143_0⟩ := Kd.at_int HR1.out x11_1 p143 q143
                  cases e143
                  replace hx143_0 := (HB.out.cell (World.block_lt_of_cell? w _ hx143_0)).trans hx143_0
                  replace p143 := eq_true p143
                  replace q143 := eq_true q143
                  have p144 : 0 ≤ (x11_1 : Int) := of_decide_eq_true (by first | (with_reducible assumption) | assumption)
                  have q144 : x11_1 < (l0.length : Int) := of_decide_eq_true (by first | (with_reducible assumption) | assumption)
                  obtain ⟨ad144, e144, hx144_0⟩ := Kd.at_int HR0.out x11_1 p144 q144
                  cases e144
                  replace hx144_0 := (HB.out.cell (World.block_lt_of_cell? w _ hx144_0)).trans hx144_0
                  replace p144 := eq_true p144
                  replace q144 := eq_true q144
                  go_wp2
                  go_roundg k1
                  case measure => have := HK1.out; omega
                  case rel => exact ⟨(wrap64 (x11_1 + 1)), (x143000_1), (x143001_1), (by first | rfl | (simp; done) | (simp [*]; done)), H', ⟨by have := HK1.out; omega⟩, ⟨by (with_reducible repeat (first | refine blk_drewN ?_ _ | refine blk_drew ?_ | refine blk_alloc ?_ _)); exact BK142.out⟩, ⟨by repeat (first | (with_reducible first | exact HB.out | apply below_alloc | apply pw_below_drewN | apply below_drew1 | refine below_set ?_ GE142.out) | exact HB.out)⟩⟩
              · rw [if_neg c8] at H
                exact absurd H (by simp)
            · rw [if_neg c7] at H
              have c7b0 : decide (0 < (rd l1 x11_1)) = false := decide_eq_false c7
              clear c7
              have H' := Aside0.mk H
              clear H
              have p143 : 0 ≤ (x11_1 : Int) := of_decide_eq_true (by first | (with_reducible assumption) | assumption)
              have q143 : x11_1 < (l1.length : Int) := of_decide_eq_true (by first | (with_reducible assumption) | assumption)
              obtain ⟨ad143, e143, hx143_0⟩ := Kd.at_int HR1.out x11_1 p143 q143
              cases e143
              replace hx143_0 := (HB.out.cell (World.block_lt_of_cell? w _ hx143_0)).trans hx143_0
              replace p143 := eq_true p143
              replace q143 := eq_true q143
              go_wp2
              go_roundg k1
              case measure => have := HK1.out; omega
              case rel => exact ⟨(wrap64 (x11_1 + 1)), (x143000_1), (x143001_1), (by first | rfl | (simp; done) | (simp [*]; done)), H', ⟨by have := HK1.out; omega⟩, ⟨by (with_reducible repeat (first | refine blk_drewN ?_ _ | refine blk_drew ?_ | refine blk_alloc ?_ _)); exact BK142.out⟩, ⟨by repeat (first | (with_reducible first | exact HB.out | apply below_alloc | apply pw_below_drewN | apply below_drew1 | refine below_set ?_ GE142.out) | exact HB.out)⟩⟩
          · rw [if_neg c6] at H
            exact absurd H (by simp)
        · rw [if_neg c5] at H
          exact absurd H (by simp)
      · rw [if_neg c4] at H
        have c4b0 : decide (x11_1 < (l1.length : Int)) = false := decide_eq_false c4
        clear c4
        have H' := Aside0.mk H
        clear H
        go_wp2
        go_loopg [33] k1 (fun kq v33 w' => ∃ (x33_2 : Int) (x143000_2 : Int) (x143001_2 : Int), v33 = .int .i64 x33_2 ∧ Aside0 (spec_l10Next.l1 kq l0 l1 l0 (l0.length : Int) x33_2 = some (r1, r2)) ∧ Aside0 (kq ≤ k1) ∧ Aside0 (w'.heap[gb142]? = some (.cells #[.int .i64 x143000_2, .int .i64 x143001_2] 39 (0, 0))) ∧ Aside0 (Below w.heap.size w w'))
        case atStart => exact ⟨(0), (x143000_1), (x143001_1), (by first | rfl | (simp; done) | (simp [*]; done)), H', ⟨Nat.le_refl _⟩, ⟨by (with_reducible repeat (first | refine blk_drewN ?_ _ | refine blk_drew ?_ | refine blk_alloc ?_ _)); exact BK142.out⟩, ⟨by repeat (first | (with_reducible first | exact HB.out | apply below_alloc | apply pw_below_drewN | apply below_drew1 | refine below_set ?_ GE142.out) | exact HB.out)⟩⟩
        case round =>
          clear H'
          try clear c1
          try clear p1
          try clear q1
          try clear hx1
          try clear p2
          try clear c4
          try clear c4b0
          try clear c5
          try clear c5b0
          try clear c6
          try clear c6b0
          try clear p6
          try clear c7
          try clear c7b0
          try clear c8
          try clear c8b0
          try clear c9
          try clear c9b0
          try clear c9b1
          try clear hcz11_0
          try clear hcz11_1
          try clear hfz11_0
          try clear hfz11_1
          try clear hx143_0
          try clear hx144_0
          try clear p143
          try clear p144
          try clear p2
          try clear q143
          try clear q144
          obtain ⟨x33_2, x143000_2, x143001_2, rfl, HA, HK2, BK142, HB⟩ := hrel
          cases gk with
          | zero => exact absurd HA.out (by simp [spec_l10Next.l1])
          | succ k2 =>
            have H := HA.out
            clear HA
            simp only [spec_l10Next.l1] at H
            by_cases c12 : x33_2 < (l0.length : Int)
            · rw [if_pos c12] at H
              have c12b0 : decide (x33_2 < (l0.length : Int)) = true := decide_eq_true c12
              clear c12
              by_cases c13 : 0 ≤ x33_2
              · rw [if_pos c13] at H
                have c13b0 : decide (0 ≤ x33_2) = true := decide_eq_true c13
                clear c13
                by_cases c14 : x33_2 < (l0.length : Int)
                · rw [if_pos c14] at H
                  have c14b0 : decide (x33_2 < (l0.length : Int)) = true := decide_eq_true c14
                  clear c14
                  by_cases c15 : (rd l0 x33_2) > 0
                  · rw [if_pos c15] at H
                    have c15b0 : decide (0 < (rd l0 x33_2)) = true := decide_eq_true c15
                    clear c15
                    by_cases c16 : x33_2 < (l1.length : Int)
                    · rw [if_pos c16] at H
                      have c16b0 : decide (x33_2 < (l1.length : Int)) = true := decide_eq_true c16
                      clear c16
                      by_cases c17 : (rd l1 x33_2) = (rd l0 x33_2)
                      · rw [if_pos c17] at H
                        have c17b0 : ((rd l1 x33_2) == (rd l0 x33_2)) = true := beq_iff_eq.mpr c17
                        have c17b1 : ((rd l1 x33_2) != (rd l0 x33_2)) = false := bne_eq_false_iff_eq.mpr c17
                        clear c17
                        have H' := Aside0.mk H
                        clear H
                        have p146 : 0 ≤ (x33_2 : Int) := of_decide_eq_true (by first | (with_reducible assumption) | assumption)
                        have q146 : x33_2 < (l0.length : Int) := of_decide_eq_true (by first | (with_reducible assumption) | assumption)
                        obtain ⟨ad146, e146, hx146_0⟩ := Kd.at_int HR0.out x33_2 p146 q146
                        cases e146
                        replace hx146_0 := (HB.out.cell (World.block_lt_of_cell? w _ hx146_0)).trans hx146_0
                        replace p146 := eq_true p146
                        replace q146 := eq_true q146
                        have p147 : 0 ≤ (x33_2 : Int) := of_decide_eq_true (by first | (with_reducible assumption) | assumption)
                        have q147 : x33_2 < (l1.length : Int) := of_decide_eq_true (by first | (with_reducible assumption) | assumption)
                        obtain ⟨ad147, e147, hx147_0⟩ := Kd.at_int HR1.out x33_2 p147 q147
                        cases e147
                        replace hx147_0 := (HB.out.cell (World.block_lt_of_cell? w _ hx147_0)).trans hx147_0
                        replace p147 := eq_true p147
                        replace q147 := eq_true q147
                        go_wp2
                        go_roundg k2
                        case measure => have := HK1.out; have := HK2.out; omega
                        case rel => exact ⟨(wrap64 (x33_2 + 1)), (x143000_2), (x143001_2), (by first | rfl | (simp; done) | (simp [*]; done)), H', ⟨by have := HK1.out; have := HK2.out; omega⟩, ⟨by (with_reducible repeat (first | refine blk_drewN ?_ _ | refine blk_drew ?_ | refine blk_alloc ?_ _)); exact BK142.out⟩, ⟨by repeat (first | (with_reducible first | exact HB.out | apply below_alloc | apply pw_below_drewN | apply below_drew1 | refine below_set ?_ GE142.out) | exact HB.out)⟩⟩
                      · rw [if_neg c17] at H
                        have c17b0 : ((rd l1 x33_2) == (rd l0 x33_2)) = false := beq_eq_false_iff_ne.mpr c17
                        have c17b1 : ((rd l1 x33_2) != (rd l0 x33_2)) = true := bne_iff_ne.mpr c17
                        replace H := Option.bind_eq_some_iff.mp H
                        obtain ⟨t148, A180, H⟩ := H
                        replace H : (some (x33_2, t148)) = some (r1, r2) := H
                        have A18 := Aside0.mk A180
                        clear A180
                        simp only [Option.some.injEq, Prod.mk.injEq] at H
                        obtain ⟨rfl, rfl⟩ := H
                        have p146 : 0 ≤ (x33_2 : Int) := of_decide_eq_true (by first | (with_reducible assumption) | assumption)
                        have q146 : x33_2 < (l0.length : Int) := of_decide_eq_true (by first | (with_reducible assumption) | assumption)
                        obtain ⟨ad146, e146, hx146_0⟩ := Kd.at_int HR0.out x33_2 p146 q146
                        cases e146
                        replace hx146_0 := (HB.out.cell (World.block_lt_of_cell? w _ hx146_0)).trans hx146_0
                        replace p146 := eq_true p146
                        replace q146 := eq_true q146
                        have p147 : 0 ≤ (x33_2 : Int) := of_decide_eq_true (by first | (with_reducible assumption) | assumption)
                        have q147 : x33_2 < (l1.length : Int) := of_decide_eq_true (by first | (with_reducible assumption) | assumption)
                        obtain ⟨ad147, e147, hx147_0⟩ := Kd.at_int HR1.out x33_2 p147 q147
                        cases e147
                        replace hx147_0 := (HB.out.cell (World.block_lt_of_cell? w _ hx147_0)).trans hx147_0
                        replace p147 := eq_true p147
                        replace q147 := eq_true q147
                        go_wp2_with (first | ((with_reducible refine gate_callee (f := 84) rfl ?_); refine goesL_ (some 50) rfl rfl Try.func84 (by kernel_rfl) rfl #[.slice (some ad146) l0.length c0, .int .i64 0] rfl (by (try simp only [List.map_toArray, List.map_cons, List.map_nil]); first | done | rfl | (simp only [List.length_drop, List.length_take]; rfl)) ?_; (with_reducible refine (spec_l10Spot.calls k2 _ _ l0 0 t148 _ ?side1 ?side2 A18.out).mono ?_); (case side1 => repeat (first | exact (Kd.C_below HR0.out HB.out) | (with_reducible refine Kd.C_alloc ?_ _) | (with_reducible refine Kd.C_drewN ?_ _) | (with_reducible refine Kd.C_drew ?_))); (case side2 => exact HC0.out); rintro e w' ⟨rfl, ⟨nd, rfl⟩⟩; refine ⟨_, rfl, ?_⟩; (try (rw [drewN_self wr]; generalize hq_ : World.drewN wr _ = wr; have n0_ : Aside0 (wr.heap[gb142]? = some (.cells #[.int .i64 x143000_2, .int .i64 x143001_2] 39 (0, 0))) := ⟨by rw [← hq_]; exact (by (with_reducible repeat (first | refine blk_drewN ?_ _ | refine blk_drew ?_ | refine blk_alloc ?_ _)); exact BK142.out)⟩; have n1_ : Aside0 (Below w.heap.size w wr) := ⟨by rw [← hq_]; exact (by repeat (first | (with_reducible first | exact HB.out | apply below_alloc | apply pw_below_drewN | apply below_drew1 | refine below_set ?_ GE142.out) | exact HB.out))⟩; clear BK142 HB hq_; have BK142 := n0_; have HB := n1_; clear n0_ n1_)); have hcz19_0 : wr.cell? ⟨gb142, 0, none⟩ = some (.int .i64 x143000_2) := (blk_cell BK142.out 0).trans rfl; have hcz19_1 : wr.cell? ⟨gb142, 1, none⟩ = some (.int .i64 x143001_2) := (blk_cell BK142.out 1).trans rfl; have hfz19_0 := blk_frozen BK142.out 0; have hfz19_1 := blk_frozen BK142.out 1))
                        refine bodyPost_ret (results_cell_row rfl _ _ gb142 39 #[.int .i64 x33_2, .int .i64 t148] (0, 0) _ rfl (by (with_reducible repeat (first | refine blk_drewN ?_ _ | refine blk_drew ?_ | refine blk_alloc ?_ _)); refine blk_put (cs := #[.int .i64 x33_2, .int .i64 x143001_2]) ?_ 1 _ rfl; (with_reducible repeat (first | refine blk_drewN ?_ _ | refine blk_drew ?_ | refine blk_alloc ?_ _)); refine blk_put (cs := #[.int .i64 x143000_2, .int .i64 x143001_2]) ?_ 0 _ rfl; (with_reducible repeat (first | refine blk_drewN ?_ _ | refine blk_drew ?_ | refine blk_alloc ?_ _)); exact BK142.out) Try.underlying39 rfl (by kernel_rfl)) rfl ?_
                        exact ⟨by first | rfl | (simp [errW_none, errW_some] <;> rfl) | (simp [*, errW_none, errW_some] <;> rfl), by repeat (first | (with_reducible first | exact HB.out | apply below_alloc | apply pw_below_drewN | apply below_drew1 | refine below_set ?_ GE142.out) | exact HB.out)⟩
                    · rw [if_neg c16] at H
                      exact absurd H (by simp)
                  · rw [if_neg c15] at H
                    have c15b0 : decide (0 < (rd l0 x33_2)) = false := decide_eq_false c15
                    clear c15
                    have H' := Aside0.mk H
                    clear H
                    have p146 : 0 ≤ (x33_2 : Int) := of_decide_eq_true (by first | (with_reducible assumption) | assumption)
                    have q146 : x33_2 < (l0.length : Int) := of_decide_eq_true (by first | (with_reducible assumption) | assumption)
                    obtain ⟨ad146, e146, hx146_0⟩ := Kd.at_int HR0.out x33_2 p146 q146
                    cases e146
                    replace hx146_0 := (HB.out.cell (World.block_lt_of_cell? w _ hx146_0)).trans hx146_0
                    replace p146 := eq_true p146
                    replace q146 := eq_true q146
                    go_wp2
                    go_roundg k2
                    case measure => have := HK1.out; have := HK2.out; omega
                    case rel => exact ⟨(wrap64 (x33_2 + 1)), (x143000_2), (x143001_2), (by first | rfl | (simp; done) | (simp [*]; done)), H', ⟨by have := HK1.out; have := HK2.out; omega⟩, ⟨by (with_reducible repeat (first | refine blk_drewN ?_ _ | refine blk_drew ?_ | refine blk_alloc ?_ _)); exact BK142.out⟩, ⟨by repeat (first | (with_reducible first | exact HB.out | apply below_alloc | apply pw_below_drewN | apply below_drew1 | refine below_set ?_ GE142.out) | exact HB.out)⟩⟩
                · rw [if_neg c14] at H
                  exact absurd H (by simp)
              · rw [if_neg c13] at H
                exact absurd H (by simp)
            · rw [if_neg c12] at H
              have c12b0 : decide (x33_2 < (l0.length : Int)) = false := decide_eq_false c12
              clear c12
              simp only [Option.some.injEq, Prod.mk.injEq] at H
              obtain ⟨rfl, rfl⟩ := H
              have hcz20_0 : wr.cell? ⟨gb142, 0, none⟩ = some (.int .i64 x143000_2) := (blk_cell BK142.out 0).trans rfl
              have hcz20_1 : wr.cell? ⟨gb142, 1, none⟩ = some (.int .i64 x143001_2) := (blk_cell BK142.out 1).trans rfl
              have hfz20_0 := blk_frozen BK142.out 0
              have hfz20_1 := blk_frozen BK142.out 1
              go_wp2
              refine bodyPost_ret (results_cell_row rfl _ _ gb142 39 #[.int .i64 (-1), .int .i64 0] (0, 0) _ rfl (by (with_reducible repeat (first | refine blk_drewN ?_ _ | refine blk_drew ?_ | refine blk_alloc ?_ _)); refine blk_put (cs := #[.int .i64 (-1), .int .i64 x143001_2]) ?_ 1 _ rfl; (with_reducible repeat (first | refine blk_drewN ?_ _ | refine blk_drew ?_ | refine blk_alloc ?_ _)); refine blk_put (cs := #[.int .i64 x143000_2, .int .i64 x143001_2]) ?_ 0 _ rfl; (with_reducible repeat (first | refine blk_drewN ?_ _ | refine blk_drew ?_ | refine blk_alloc ?_ _)); exact BK142.out) Try.underlying39 rfl (by kernel_rfl)) rfl ?_
              exact ⟨by first | rfl | (simp [errW_none, errW_some] <;> rfl) | (simp [*, errW_none, errW_some] <;> rfl), by repeat (first | (with_reducible first | exact HB.out | apply below_alloc | apply pw_below_drewN | apply below_drew1 | refine below_set ?_ GE142.out) | exact HB.out)⟩

/-! ### spec_PlanMoves: function 37 -/
def spec_PlanMoves.l0 : Nat → List Int → List Int → List (S39) → Int → Int → Option ((List (S39)) × Bool)
  | 0, _, _, _, _, _ => none
  | k + 1, x1, x6, x7, x159000, x159001 => if x159000 ≥ 0 then ((spec_l10Do.f x6 x159000 x159001).bind fun bt159 => (if x7.length < 8796093022208 then ((spec_l10Next.f k bt159.2 x1).bind fun bt165 => (spec_PlanMoves.l0 k x1 bt159.2 (x7 ++ [(⟨x159000, x159001⟩ : S39)]) bt165.1 bt165.2)) else (none))) else (some (x7, true))
def spec_PlanMoves.f (k : Nat) (l0 : List Int) (l1 : List Int) : Option ((List (S39)) × Bool) := (spec_l10Both.f k l0 l1).bind fun t149 => (if t149 = true then ((some (([] : List Int) : List Int)).bind fun y150 => (if y150.length + l0.length < 17592186044416 then ((some (y150 ++ l0 : List Int)).bind fun y153 => ((spec_l10Next.f k y153 l1).bind fun bt156 => (spec_PlanMoves.l0 k l1 y153 ([] : List (S39)) bt156.1 bt156.2))) else (none))) else (some (([] : List (S39)), false)))
theorem spec_PlanMoves.mono_l : ∀ k, (∀ y0 y1 y2 y3 y4, LeO (spec_PlanMoves.l0 k y0 y1 y2 y3 y4) (spec_PlanMoves.l0 (k + 1) y0 y1 y2 y3 y4))
  | 0 => fun _ _ _ _ _ r h => by simp [spec_PlanMoves.l0] at h
  | k + 1 => by
    have ih0 := spec_PlanMoves.mono_l k
    · intro y0 y1 y2 y3 y4
      unfold spec_PlanMoves.l0
      repeat' first
      | (with_reducible exact ih0 _ _ _ _ _)
      | (with_reducible exact spec_l10Both.mono _ _ _)
      | (with_reducible exact spec_l10Next.mono _ _ _)
      | (with_reducible exact LeO.refl _)
      | (with_reducible exact LeO.none _)
      | (with_reducible refine LeO.ite ?_ ?_)
      | (with_reducible refine LeO.bind ?_ (fun _ => ?_))
      | exact ih0 _ _ _ _ _
      | exact spec_l10Both.mono _ _ _
      | exact spec_l10Next.mono _ _ _
      | exact LeO.none _
      | refine LeO.ite ?_ ?_
      | refine LeO.bind ?_ (fun _ => ?_)
theorem spec_PlanMoves.mono : ∀ a0 a1 k, LeO (spec_PlanMoves.f k a0 a1) (spec_PlanMoves.f (k + 1) a0 a1) := by
  intro a0 a1 k
  have ih0 := spec_PlanMoves.mono_l k
  unfold spec_PlanMoves.f
  repeat' first
      | (with_reducible exact ih0 _ _ _ _ _)
      | (with_reducible exact spec_l10Both.mono _ _ _)
      | (with_reducible exact spec_l10Next.mono _ _ _)
      | (with_reducible exact LeO.refl _)
      | (with_reducible exact LeO.none _)
      | (with_reducible refine LeO.ite ?_ ?_)
      | (with_reducible refine LeO.bind ?_ (fun _ => ?_))
      | exact ih0 _ _ _ _ _
      | exact spec_l10Both.mono _ _ _
      | exact spec_l10Next.mono _ _ _
      | exact LeO.none _
      | refine LeO.ite ?_ ?_
      | refine LeO.bind ?_ (fun _ => ?_)
set_option maxHeartbeats 8000000 in
set_option maxRecDepth 100000 in
theorem spec_PlanMoves.calls (k : Nat) (A0 : Option Addr) (c0 : Nat) (l0 : List Int) (A1 : Option Addr) (c1 : Nat) (l1 : List Int) (r1 : List (S39)) (r2 : Bool) (w : World) (hr0 : Kd.C (Kd.int .i64) w A0 l0.length l0) (hc0 : l0.length ≤ c0) (hr1 : Kd.C (Kd.int .i64) w A1 l1.length l1) (hc1 : l1.length ≤ c1) (h : spec_PlanMoves.f k l0 l1 = some (r1, r2)) :
    Calls Try.prog 37 #[.slice A0 l0.length c0, .slice A1 l1.length c1] w fun e w' => ∃ v0_ : Value, e = .returned (.tuple #[v0_, .bool r2]) ∧ Kd.R k39 39 w' w.heap.size (fun _ => True) v0_ r1 ∧ Below w.heap.size w w' := by
  have hu39 := Try.underlying39
  have HR0 := Aside0.mk hr0
  have HC0 := Aside0.mk hc0
  clear hr0 hc0
  have HR1 := Aside0.mk hr1
  have HC1 := Aside0.mk hc1
  clear hr1 hc1
  have HB := Aside0.mk (Below.refl w.heap.size w)
  have H : ((spec_l10Both.f k l0 l1).bind fun t149 => (if t149 = true then ((some (([] : List Int) : List Int)).bind fun y150 => (if y150.length + l0.length < 17592186044416 then ((some (y150 ++ l0 : List Int)).bind fun y153 => ((spec_l10Next.f k y153 l1).bind fun bt156 => (spec_PlanMoves.l0 k l1 y153 ([] : List (S39)) bt156.1 bt156.2))) else (none))) else (some (([] : List (S39)), false)))) = some (r1, r2) := h
  clear h
  replace H := Option.bind_eq_some_iff.mp H
  obtain ⟨t149, A30, H⟩ := H
  replace H : (if t149 = true then ((some (([] : List Int) : List Int)).bind fun y150 => (if y150.length + l0.length < 17592186044416 then ((some (y150 ++ l0 : List Int)).bind fun y153 => ((spec_l10Next.f k y153 l1).bind fun bt156 => (spec_PlanMoves.l0 k l1 y153 ([] : List (S39)) bt156.1 bt156.2))) else (none))) else (some (([] : List (S39)), false))) = some (r1, r2) := H
  have A3 := Aside0.mk A30
  clear A30
  by_cases c4 : t149 = true
  · subst c4
    have H1 : ((some (([] : List Int) : List Int)).bind fun y150 => (if y150.length + l0.length < 17592186044416 then ((some (y150 ++ l0 : List Int)).bind fun y153 => ((spec_l10Next.f k y153 l1).bind fun bt156 => (spec_PlanMoves.l0 k l1 y153 ([] : List (S39)) bt156.1 bt156.2))) else (none))) = some (r1, r2) := by rw [if_pos rfl] at H; exact H
    clear H
    have H := H1
    clear H1
    obtain ⟨y150, hy150⟩ : ∃ y_ : List Int, y_ = (([] : List Int)) := ⟨_, rfl⟩
    replace H : (if y150.length + l0.length < 17592186044416 then ((some (y150 ++ l0 : List Int)).bind fun y153 => ((spec_l10Next.f k y153 l1).bind fun bt156 => (spec_PlanMoves.l0 k l1 y153 ([] : List (S39)) bt156.1 bt156.2))) else (none)) = some (r1, r2) := by first | (rw [hy150]; with_reducible exact H) | (have H2_ := (Option.bind_some _ _).symm.trans H; rw [hy150]; with_reducible exact H2_) | (have H2_ := (Option.bind_some _ _).symm.trans H; with_reducible exact H2_) | with_reducible exact H | (rw [hy150]; exact H) | exact H
    have Ny150 := Aside0.mk hy150
    clear hy150
    by_cases c5 : y150.length + l0.length < 17592186044416
    · rw [if_pos c5] at H
      have LMc5 := Aside0.mk c5
      clear c5
      obtain ⟨y153, hy153⟩ : ∃ y_ : List Int, y_ = (y150 ++ l0) := ⟨_, rfl⟩
      replace H : ((spec_l10Next.f k y153 l1).bind fun bt156 => (spec_PlanMoves.l0 k l1 y153 ([] : List (S39)) bt156.1 bt156.2)) = some (r1, r2) := by first | (rw [hy153]; with_reducible exact H) | (have H2_ := (Option.bind_some _ _).symm.trans H; rw [hy153]; with_reducible exact H2_) | (have H2_ := (Option.bind_some _ _).symm.trans H; with_reducible exact H2_) | with_reducible exact H | (rw [hy153]; exact H) | exact H
      have Ny153 := Aside0.mk hy153
      clear hy153
      replace H := Option.bind_eq_some_iff.mp H
      obtain ⟨⟨t156, t157⟩, A60, H⟩ := H
      replace H : (spec_PlanMoves.l0 k l1 y153 ([] : List (S39)) t156 t157) = some (r1, r2) := H
      have A6 := Aside0.mk A60
      clear A60
      have H' := Aside0.mk H
      clear H
      go_enter Try.func37, Try.ntmps37
      go_wp2_with (first | ((with_reducible refine gate_callee (f := 67) rfl ?_); refine goesL_ (some 11) rfl rfl Try.func67 (by kernel_rfl) rfl #[.slice A0 l0.length c0, .slice A1 l1.length c1] rfl (by (try simp only [List.map_toArray, List.map_cons, List.map_nil]); first | done | rfl | (simp only [List.length_drop, List.length_take]; rfl)) ?_; (with_reducible refine (spec_l10Both.calls k _ _ l0 _ _ l1 true _ ?side1 ?side2 ?side3 ?side4 A3.out).mono ?_); (case side1 => repeat (first | exact HR0.out | (with_reducible refine Kd.C_alloc ?_ _) | (with_reducible refine Kd.C_drewN ?_ _) | (with_reducible refine Kd.C_drew ?_))); (case side2 => exact HC0.out); (case side3 => repeat (first | exact HR1.out | (with_reducible refine Kd.C_alloc ?_ _) | (with_reducible refine Kd.C_drewN ?_ _) | (with_reducible refine Kd.C_drew ?_))); (case side4 => exact HC1.out); rintro e w' ⟨rfl, ⟨nd, rfl⟩⟩; refine ⟨_, rfl, ?_⟩) | ((with_reducible refine gate_dst (N := 13) rfl ?_); refine Kd.R_lit (Kd.int .i64) _ 3 ?hg (N := 13) ?hd (xs := ([] : List Int)) (inner := []) (ok := fun _ => True) (okp := fun _ => True) ?hr ?hp (fun _ hk => hk) trivial (Below.refl _ _) (Nat.le_refl _) (by simp) ?_; (case hd => rfl); (case hg => rfl); (case hr => first | (go_simp; done) | (go_simp; rfl)); (case hp => exact (Reps.none _ _)); intro v151 w7 ho8 hb hg_ hnew_; clear hg_ hnew_; (first | rw [← Ny150.out] at ho8 | (simp only [Int.reduceToNat] at ho8; rw [← Ny150.out] at ho8)); have n0_ := Aside0.mk (Kd.R_lower ho8 (below_size (by repeat (first | (with_reducible first | exact HB.out | apply below_alloc | apply pw_below_drewN | apply below_drew1) | exact HB.out)))); have n1_ := Aside0.mk (below_step (by repeat (first | (with_reducible first | exact HB.out | apply below_alloc | apply pw_below_drewN | apply below_drew1) | exact HB.out)) hb); clear HB; have HO152 := n0_; have HB := n1_; clear n0_ n1_; clear hb ho8) | ((with_reducible refine gate_builtin (b := .append) (xs := #[.tmp 13, .tmp 14]) rfl ?_); at_builtin; refine Kd.R_append_rows (Kd.int .i64) (w0 := w) w.heap.size rfl (.tmp 13) (.tmp 14) 22 3 (.int .i64 0) 8 rfl Try.underlying22 info3 rfl (by decide) (by omega) v151 y150 l0 _ _ _ (fun _ => True) (fun _ => False) rfl rfl ?aO ?aR (fun _ _ h => h) (fun _ h => h.elim) ?aF ?aB ?aS ?aL ?_; (case aR => repeat (first | exact (Kd.C_below HR0.out HB.out) | (with_reducible refine Kd.C_alloc ?_ _) | (with_reducible refine Kd.C_drewN ?_ _) | (with_reducible refine Kd.C_drew ?_))); (case aB => exact (by repeat (first | (with_reducible first | exact HB.out | apply below_alloc | apply pw_below_drewN | apply below_drew1) | exact HB.out))); (case aF => exact (fun _ _ => trivial)); (case aO => exact (by (with_reducible repeat (first | apply Kd.R_alloc | apply Kd.R_drewN | apply Kd.R_drew)); exact HO152.out)); (case aS => exact (below_size (by repeat (first | (with_reducible first | exact HB.out | apply below_alloc | apply pw_below_drewN | apply below_drew1) | exact HB.out)))); (case aL => have := LMc5.out; omega); intro v154 w9 ho hb hg hat; rw [← Ny153.out] at ho; have n0_ := Aside0.mk (hb); have n1_ := Aside0.mk (ho); clear HB; clear HO152; have HB := n0_; have HO155 := n1_; clear n0_ n1_; clear ho hb hg hat; obtain ⟨Ao10, co10, eo10⟩ := Kd.R_slice HO155.out; subst eo10) | ((with_reducible refine gate_callee (f := 71) rfl ?_); refine goesL_ (some 18) rfl rfl Try.func71 (by kernel_rfl) rfl #[.slice Ao10 y153.length co10, .slice A1 l1.length c1] rfl (by (try simp only [List.map_toArray, List.map_cons, List.map_nil]); first | done | rfl | (simp only [List.length_drop, List.length_take]; rfl)) ?_; (with_reducible refine (spec_l10Next.calls k _ _ y153 _ _ l1 t156 t157 _ ?side1 ?side2 ?side3 ?side4 A6.out).mono ?_); (case side1 => repeat (first | exact (Kd.R_reads' HO155.out).2.2 | (with_reducible refine Kd.C_alloc ?_ _) | (with_reducible refine Kd.C_drewN ?_ _) | (with_reducible refine Kd.C_drew ?_))); (case side2 => exact (Kd.R_reads' HO155.out).2.1); (case side3 => repeat (first | exact (Kd.C_below HR1.out HB.out) | (with_reducible refine Kd.C_alloc ?_ _) | (with_reducible refine Kd.C_drewN ?_ _) | (with_reducible refine Kd.C_drew ?_))); (case side4 => exact HC1.out); rintro e w11 ⟨rfl, hb⟩; refine ⟨_, rfl, ?_⟩; have n0_ := Aside0.mk (Kd.R_below (by (with_reducible repeat (first | apply Kd.R_alloc | apply Kd.R_drewN | apply Kd.R_drew)); exact HO155.out) hb); have n1_ := Aside0.mk (below_step (by repeat (first | (with_reducible first | exact HB.out | apply below_alloc | apply pw_below_drewN | apply below_drew1) | exact HB.out)) hb); clear HO155; clear HB; have HO155 := n0_; have HB := n1_; clear n0_ n1_; (try clear hb); (try clear hb2); (try clear hk); (try clear hi)) | ((with_reducible refine gate_dst (N := 8) rfl ?_); refine box_event ?hg (N := 8) ?hd (cs := #[.int .i64 0, .int .i64 0]) (t := 39) ?hr ?_; (case hd => rfl); (case hg => rfl); (case hr => first | (go_simp; done) | (go_simp; rfl)); intro gb158 hg w12 hbox hb; have n0_ := Aside0.mk (Kd.R_below (by (with_reducible repeat (first | apply Kd.R_alloc | apply Kd.R_drewN | apply Kd.R_drew)); exact HO155.out) hb); have n1_ := Aside0.mk (below_step (by repeat (first | (with_reducible first | exact HB.out | apply below_alloc | apply pw_below_drewN | apply below_drew1) | exact HB.out)) hb); have n2_ := Aside0.mk (hbox); have n3_ := Aside0.mk ((by rw [hg]; exact (below_size (by repeat (first | (with_reducible first | exact HB.out | apply below_alloc | apply pw_below_drewN | apply below_drew1) | exact HB.out))) : w.heap.size ≤ gb158)); have n4_ := Aside0.mk ((by rw [hg]; exact (below_size (by repeat (first | (with_reducible first | exact HB.out | apply below_alloc | apply pw_below_drewN | apply below_drew1) | exact HB.out))) : w.heap.size ≤ gb158)); clear HO155; clear HB; have HO155 := n0_; have HB := n1_; have BK158 := n2_; have GW158 := n3_; have GE158 := n4_; clear n0_ n1_ n2_ n3_ n4_; clear hb hbox hg; have hcz13_0 : w12.cell? ⟨gb158, 0, none⟩ = some (.int .i64 0) := (blk_cell BK158.out 0).trans rfl; have hcz13_1 : w12.cell? ⟨gb158, 1, none⟩ = some (.int .i64 0) := (blk_cell BK158.out 1).trans rfl; have hfz13_0 := blk_frozen BK158.out 0; have hfz13_1 := blk_frozen BK158.out 1))
      go_loopg [7, 8] k (fun kq v7 v8 w' => ∃ (x6_1 : List Int) (x7_1 : List (S39)) (t156 t157 : Int) (gb158 : Nat), v8 = .pointer (some ⟨gb158, 0, none⟩) ∧ Aside0 (w.heap.size ≤ gb158) ∧ Aside0 (spec_PlanMoves.l0 kq l1 x6_1 x7_1 t156 t157 = some (r1, r2)) ∧ Aside0 (kq ≤ k) ∧ Aside0 (Kd.R (Kd.int .i64) 3 w' w.heap.size (fun _ => True) (.slice Ao10 y153.length co10) x6_1) ∧ Aside0 (Kd.R k39 39 w' w.heap.size (fun k_ => k_ ≠ gb158) v7 x7_1) ∧ Aside0 (w'.heap[gb158]? = some (.cells #[.int .i64 t156, .int .i64 t157] 39 (0, 0))) ∧ Aside0 (Below w.heap.size w w'))
      case atStart => exact ⟨(y153), (([] : List (S39))), t156, t157, gb158, rfl, GE158, H', ⟨Nat.le_refl _⟩, ⟨by (with_reducible repeat (first | apply Kd.R_alloc | apply Kd.R_drewN | apply Kd.R_drew)); exact Kd.R_mono (Kd.R_far (p := ⟨gb158, 1, none⟩) (Kd.R_far (p := ⟨gb158, 0, none⟩) (Kd.R_types HO155.out BK158.out (by decide)) (fun _ hk => hk.2) (.int .i64 t156)) (fun _ hk => hk.2) (.int .i64 t157)) (fun _ hk => trivial)⟩, ⟨by first | exact Kd.R_nil _ _ _ _ _ | exact Kd.N_nil _ _ _ _ _ | exact Kd.V_nil _ _ _ _ _ | exact Kd.Q_nil _ _ _ _ _ | exact Kd.S_nil _ _ _ _ _⟩, ⟨by (with_reducible repeat (first | refine blk_drewN ?_ _ | refine blk_drew ?_ | refine blk_alloc ?_ _)); refine blk_put (cs := #[.int .i64 t156, .int .i64 0]) ?_ 1 _ rfl; (with_reducible repeat (first | refine blk_drewN ?_ _ | refine blk_drew ?_ | refine blk_alloc ?_ _)); refine blk_put (cs := #[.int .i64 0, .int .i64 0]) ?_ 0 _ rfl; (with_reducible repeat (first | refine blk_drewN ?_ _ | refine blk_drew ?_ | refine blk_alloc ?_ _)); exact BK158.out⟩, ⟨by repeat (first | (with_reducible first | exact HB.out | apply below_alloc | apply pw_below_drewN | apply below_drew1 | refine below_set ?_ GE158.out) | exact HB.out)⟩⟩
      case round =>
        clear H'
        try clear c1
        try clear p2
        try clear c3
        try clear c4
        try clear c5
        try clear c6
        try clear c7
        try clear hcz13_0
        try clear hcz13_1
        try clear hfz13_0
        try clear hfz13_1
        obtain ⟨x6_1, x7_1, t156, t157, gb158, rfl, GE158, HA, HK1, HO_6, HO_7, BK158, HB⟩ := hrel
        have hl6_1 := (Kd.R_reads' HO_6.out).1
        rw [hl6_1] at HO_6
        (try simp only [hl6_1])
        (try simp only [hl6_1] at BK158)
        (try simp only [hl6_1] at HO_7)
        cases gk with
        | zero => exact absurd HA.out (by simp [spec_PlanMoves.l0])
        | succ k1 =>
          have H := HA.out
          clear HA
          simp only [spec_PlanMoves.l0] at H
          by_cases c14 : t156 ≥ 0
          · rw [if_pos c14] at H
            have c14b0 : decide (0 ≤ t156) = true := decide_eq_true c14
            clear c14
            replace H := Option.bind_eq_some_iff.mp H
            obtain ⟨⟨t159, t160⟩, A150, H⟩ := H
            replace H : (if x7_1.length < 8796093022208 then ((spec_l10Next.f k1 t160 l1).bind fun bt165 => (spec_PlanMoves.l0 k1 l1 t160 (x7_1 ++ [(⟨t156, t157⟩ : S39)]) bt165.1 bt165.2)) else (none)) = some (r1, r2) := H
            have A15 := Aside0.mk A150
            clear A150
            by_cases c16 : x7_1.length < 8796093022208
            · rw [if_pos c16] at H
              have LMc16 := Aside0.mk c16
              clear c16
              obtain ⟨y161, hy161⟩ : ∃ y_ : List (S39), y_ = (x7_1 ++ [(⟨t156, t157⟩ : S39)]) := ⟨_, rfl⟩
              replace H : ((spec_l10Next.f k1 t160 l1).bind fun bt165 => (spec_PlanMoves.l0 k1 l1 t160 y161 bt165.1 bt165.2)) = some (r1, r2) := by first | (rw [hy161]; with_reducible exact H) | (have H2_ := (Option.bind_some _ _).symm.trans H; rw [hy161]; with_reducible exact H2_) | (have H2_ := (Option.bind_some _ _).symm.trans H; with_reducible exact H2_) | with_reducible exact H | (rw [hy161]; exact H) | exact H
              have Ny161 := Aside0.mk hy161
              clear hy161
              replace H := Option.bind_eq_some_iff.mp H
              obtain ⟨⟨t165, t166⟩, A170, H⟩ := H
              replace H : (spec_PlanMoves.l0 k1 l1 t160 y161 t165 t166) = some (r1, r2) := H
              have A17 := Aside0.mk A170
              clear A170
              have H' := Aside0.mk H
              clear H
              have hcz18_0 : wr.cell? ⟨gb158, 0, none⟩ = some (.int .i64 t156) := (blk_cell BK158.out 0).trans rfl
              have hcz18_1 : wr.cell? ⟨gb158, 1, none⟩ = some (.int .i64 t157) := (blk_cell BK158.out 1).trans rfl
              have hfz18_0 := blk_frozen BK158.out 0
              have hfz18_1 := blk_frozen BK158.out 1
              go_wp2_with (first | ((with_reducible refine gate_callee (f := 65) rfl ?_); refine goesL_ (some 27) rfl rfl Try.func65 (by kernel_rfl) rfl #[.slice Ao10 x6_1.length co10, .agg #[.int .i64 t156, .int .i64 t157]] rfl (by (try simp only [List.map_toArray, List.map_cons, List.map_nil]); first | done | rfl | (simp only [List.length_drop, List.length_take]; rfl)) ?_; (with_reducible refine (spec_l10Do.calls (fun k_ => some k_ = (.slice Ao10 x6_1.length co10 : Value).ownBlock) (.slice Ao10 x6_1.length co10) x6_1 t156 t157 t159 t160 w _ ?side1 ?side2 A15.out).mono ?_); (case side1 => repeat (first | (with_reducible first | exact HB.out | apply below_alloc | apply pw_below_drewN | apply below_drew1 | refine below_set ?_ GE158.out) | exact HB.out)); (case side2 => exact Kd.R_tight rfl HO_6.out); rintro e w19 ⟨rfl, hy0, hb, hkp⟩; refine ⟨_, rfl, ?_⟩; have n0_ := Aside0.mk (Kd.R_reok rfl hy0 (fun k_ e_ => HO_6.out.1 k_ e_)); have n1_ := Aside0.mk (Kd.R_mono (ok' := fun k_ => k_ ≠ gb158) (Kd.R_keptB ((Kd.R_apart' HO_7.out (Kd.R_typed HO_6.out) (by decide))) hkp (fun k_ hk_ hs_ => (hk_.2) hs_)) (fun k_ hk_ => hk_.1.1)); have n2_ := Aside0.mk (blk_kept (by (with_reducible repeat (first | refine blk_drewN ?_ _ | refine blk_drew ?_ | refine blk_alloc ?_ _)); exact BK158.out) hkp (fun hs_ => (fun e_ => (Kd.R_ne HO_6.out BK158.out (by decide)) e_) hs_)); have n3_ := Aside0.mk (hb); clear HO_6; clear HO_7; clear BK158; clear HB; have HO_6 := n0_; have HO_7 := n1_; have BK158 := n2_; have HB := n3_; clear n0_ n1_ n2_ n3_; (try clear hb); (try clear hkp); (try clear hy0); have hcz20_0 : w19.cell? ⟨gb158, 0, none⟩ = some (.int .i64 t156) := (blk_cell BK158.out 0).trans rfl; have hcz20_1 : w19.cell? ⟨gb158, 1, none⟩ = some (.int .i64 t157) := (blk_cell BK158.out 1).trans rfl; have hfz20_0 := blk_frozen BK158.out 0; have hfz20_1 := blk_frozen BK158.out 1) | ((with_reducible refine gate_builtin (b := .append) (xs := #[.tmp 28, .tmp 30]) rfl ?_); at_builtin; refine Kd.R_append k39 (w0 := w) w.heap.size rfl (.tmp 28) (.tmp 30) 28 39 (.agg #[(.int .i64 0), (.int .i64 0)]) 16 rfl Try.underlying28 info39 rfl (by decide) (by omega) u7 x7_1 (⟨t156, t157⟩ : S39) [.int .i64 t156, .int .i64 t157] (fun k_ => k_ ≠ gb158) (fun _ => False) rfl rfl ?aP (fun _ hk => hk.elim) ?aF ?aO ?aB ?aS ?aL ?_; (case aP => exact k39_mkM _ _ _ (⟨t156, t157⟩ : S39)); (case aB => exact (by repeat (first | (with_reducible first | exact HB.out | apply below_alloc | apply pw_below_drewN | apply below_drew1 | refine below_set ?_ GE158.out) | exact HB.out))); (case aF => exact (fun k_ hk => Kd.freshB (g := gb158) (o := .cells #[.int .i64 t156, .int .i64 t157] 39 (0, 0)) (by (with_reducible repeat (first | refine blk_drewN ?_ _ | refine blk_drew ?_ | refine blk_alloc ?_ _)); exact BK158.out) k_ hk)); (case aO => exact (by (with_reducible repeat (first | apply Kd.R_alloc | apply Kd.R_drewN | apply Kd.R_drew)); exact HO_7.out)); (case aS => exact (below_size (by repeat (first | (with_reducible first | exact HB.out | apply below_alloc | apply pw_below_drewN | apply below_drew1 | refine below_set ?_ GE158.out) | exact HB.out)))); (case aL => have := LMc16.out; omega); intro v162 w21 ho hb hg hat; rw [← Ny161.out] at ho; have n0_ := Aside0.mk (Kd.R_over' (by (with_reducible repeat (first | apply Kd.R_alloc | apply Kd.R_drewN | apply Kd.R_drew)); exact HO_6.out) (Kd.R_typed (by (with_reducible repeat (first | apply Kd.R_alloc | apply Kd.R_drewN | apply Kd.R_drew)); exact HO_7.out)) (by decide) hg); have n1_ := Aside0.mk (blk_grown (g := gb158) (o := .cells #[.int .i64 t156, .int .i64 t157] 39 (0, 0)) (by (with_reducible repeat (first | refine blk_drewN ?_ _ | refine blk_drew ?_ | refine blk_alloc ?_ _)); exact BK158.out) hg (Kd.R_away HO_7.out (fun _ hk => hk))); have n2_ := Aside0.mk (hb); have n3_ := Aside0.mk (ho); clear HO_6; clear BK158; clear HB; clear HO_7; have HO_6 := n0_; have BK158 := n1_; have HB := n2_; have HO163 := n3_; clear n0_ n1_ n2_ n3_; clear ho hb hg hat; have hcz22_0 : w21.cell? ⟨gb158, 0, none⟩ = some (.int .i64 t156) := (blk_cell BK158.out 0).trans rfl; have hcz22_1 : w21.cell? ⟨gb158, 1, none⟩ = some (.int .i64 t157) := (blk_cell BK158.out 1).trans rfl; have hfz22_0 := blk_frozen BK158.out 0; have hfz22_1 := blk_frozen BK158.out 1) | ((with_reducible refine gate_dst (N := 8) rfl ?_); refine box_event ?hg (N := 8) ?hd (cs := #[.int .i64 0, .int .i64 0]) (t := 39) ?hr ?_; (case hd => rfl); (case hg => rfl); (case hr => first | (go_simp; done) | (go_simp; rfl)); intro gb164 hg w23 hbox hb; have n0_ := Aside0.mk (Kd.R_below (by (with_reducible repeat (first | apply Kd.R_alloc | apply Kd.R_drewN | apply Kd.R_drew)); exact HO_6.out) hb); have n1_ := Aside0.mk (Kd.R_below (Kd.R_elderB (by (with_reducible repeat (first | apply Kd.R_alloc | apply Kd.R_drewN | apply Kd.R_drew)); exact HO163.out) gb164 (Nat.le_of_eq hg.symm)) hb); have n2_ := Aside0.mk (blk_below (g := gb158) (o := .cells #[.int .i64 t156, .int .i64 t157] 39 (0, 0)) (by (with_reducible repeat (first | refine blk_drewN ?_ _ | refine blk_drew ?_ | refine blk_alloc ?_ _)); exact BK158.out) hb); have n3_ := Aside0.mk (below_step (by repeat (first | (with_reducible first | exact HB.out | apply below_alloc | apply pw_below_drewN | apply below_drew1 | refine below_set ?_ GE158.out) | exact HB.out)) hb); have n4_ := Aside0.mk (hbox); have n5_ := Aside0.mk ((by rw [hg]; exact (below_size (by repeat (first | (with_reducible first | exact HB.out | apply below_alloc | apply pw_below_drewN | apply below_drew1 | refine below_set ?_ GE158.out) | exact HB.out))) : w.heap.size ≤ gb164)); have n6_ := Aside0.mk ((by rw [hg]; exact (below_size (by repeat (first | (with_reducible first | exact HB.out | apply below_alloc | apply pw_below_drewN | apply below_drew1 | refine below_set ?_ GE158.out) | exact HB.out))) : w.heap.size ≤ gb164)); have n7_ := Aside0.mk ((by rw [hg]; exact Nat.ne_of_lt (blk_lt (g := gb158) (o := .cells #[.int .i64 t156, .int .i64 t157] 39 (0, 0)) (by (with_reducible repeat (first | refine blk_drewN ?_ _ | refine blk_drew ?_ | refine blk_alloc ?_ _)); exact BK158.out)) : gb158 ≠ gb164)); have n8_ := Aside0.mk ((by rw [hg]; exact Nat.ne_of_gt (blk_lt (g := gb158) (o := .cells #[.int .i64 t156, .int .i64 t157] 39 (0, 0)) (by (with_reducible repeat (first | refine blk_drewN ?_ _ | refine blk_drew ?_ | refine blk_alloc ?_ _)); exact BK158.out)) : gb164 ≠ gb158)); clear HO_6; clear HO163; clear BK158; clear HB; have HO_6 := n0_; have HO163 := n1_; have BK158 := n2_; have HB := n3_; have BK164 := n4_; have GW164 := n5_; have GE164 := n6_; have NB158_164 := n7_; have NB164_158 := n8_; clear n0_ n1_ n2_ n3_ n4_ n5_ n6_ n7_ n8_; clear hb hbox hg; have hnb24 := NB164_158.out; have hnc24 := NB158_164.out; have hcz25_0 : w23.cell? ⟨gb164, 0, none⟩ = some (.int .i64 0) := (blk_cell BK164.out 0).trans rfl; have hcz25_1 : w23.cell? ⟨gb164, 1, none⟩ = some (.int .i64 0) := (blk_cell BK164.out 1).trans rfl; have hfz25_0 := blk_frozen BK164.out 0; have hfz25_1 := blk_frozen BK164.out 1) | ((with_reducible refine gate_callee (f := 71) rfl ?_); refine goesL_ (some 24) rfl rfl Try.func71 (by kernel_rfl) rfl #[.slice Ao10 t160.length co10, .slice A1 l1.length c1] rfl (by (try simp only [List.map_toArray, List.map_cons, List.map_nil]); first | done | (rw [show t160.length = x6_1.length from (Kd.R_reads' HO_6.out).1.symm] <;> rfl) | rfl | (simp only [List.length_drop, List.length_take]; rfl)) ?_; (with_reducible refine (spec_l10Next.calls k1 _ _ t160 _ _ l1 t165 t166 _ ?side1 ?side2 ?side3 ?side4 A17.out).mono ?_); (case side1 => refine (Kd.R_reads' (e := 3) (base := w.heap.size) (ok := fun k_ => True) (n := x6_1.length) (c := co10) ?_).2.2; exact (by (with_reducible repeat (first | apply Kd.R_alloc | apply Kd.R_drewN | apply Kd.R_drew)); exact (Kd.R_mono (Kd.R_far (p := ⟨gb164, 1, none⟩) (Kd.R_far (p := ⟨gb164, 0, none⟩) (Kd.R_types HO_6.out BK164.out (by decide)) (fun _ hk => hk.2) (.int .i64 t156)) (fun _ hk => hk.2) (.int .i64 t157)) (fun _ h_ => h_.1)))); (case side2 => rw [show t160.length = x6_1.length from (Kd.R_reads' HO_6.out).1.symm]; exact (Kd.R_reads' HO_6.out).2.1); (case side3 => exact Kd.C_below HR1.out (by repeat (first | (with_reducible first | exact HB.out | apply below_alloc | apply pw_below_drewN | apply below_drew1 | refine below_set ?_ GE158.out | refine below_set ?_ GE164.out) | exact HB.out))); (case side4 => exact HC1.out); rintro e w26 ⟨rfl, hb⟩; refine ⟨_, rfl, ?_⟩; have n0_ := Aside0.mk (Kd.R_below (by (with_reducible repeat (first | apply Kd.R_alloc | apply Kd.R_drewN | apply Kd.R_drew)); exact (Kd.R_mono (Kd.R_far (p := ⟨gb164, 1, none⟩) (Kd.R_far (p := ⟨gb164, 0, none⟩) (Kd.R_types HO_6.out BK164.out (by decide)) (fun _ hk => hk.2) (.int .i64 t156)) (fun _ hk => hk.2) (.int .i64 t157)) (fun _ h_ => h_.1))) hb); have n1_ := Aside0.mk (Kd.R_below (by (with_reducible repeat (first | apply Kd.R_alloc | apply Kd.R_drewN | apply Kd.R_drew)); exact (Kd.R_mono (Kd.R_far (p := ⟨gb164, 1, none⟩) (Kd.R_far (p := ⟨gb164, 0, none⟩) (Kd.R_mono HO163.out (fun k_ hk => (⟨hk, hk.2⟩ : _ ∧ k_ ≠ gb164))) (fun _ hk => hk.2) (.int .i64 t156)) (fun _ hk => hk.2) (.int .i64 t157)) (fun _ h_ => h_.1))) hb); have n2_ := Aside0.mk (blk_below (g := gb158) (o := .cells #[.int .i64 t156, .int .i64 t157] 39 (0, 0)) (by (with_reducible repeat (first | refine blk_drewN ?_ _ | refine blk_drew ?_ | refine blk_alloc ?_ _)); refine blk_far ?_ NB158_164.out _; (with_reducible repeat (first | refine blk_drewN ?_ _ | refine blk_drew ?_ | refine blk_alloc ?_ _)); refine blk_far ?_ NB158_164.out _; (with_reducible repeat (first | refine blk_drewN ?_ _ | refine blk_drew ?_ | refine blk_alloc ?_ _)); exact BK158.out) hb); have n3_ := Aside0.mk (blk_below (g := gb164) (o := .cells #[.int .i64 t156, .int .i64 t157] 39 (0, 0)) (by (with_reducible repeat (first | refine blk_drewN ?_ _ | refine blk_drew ?_ | refine blk_alloc ?_ _)); refine blk_put (cs := #[.int .i64 t156, .int .i64 0]) ?_ 1 _ rfl; (with_reducible repeat (first | refine blk_drewN ?_ _ | refine blk_drew ?_ | refine blk_alloc ?_ _)); refine blk_put (cs := #[.int .i64 0, .int .i64 0]) ?_ 0 _ rfl; (with_reducible repeat (first | refine blk_drewN ?_ _ | refine blk_drew ?_ | refine blk_alloc ?_ _)); exact BK164.out) hb); have n4_ := Aside0.mk (below_step (by repeat (first | (with_reducible first | exact HB.out | apply below_alloc | apply pw_below_drewN | apply below_drew1 | refine below_set ?_ GE158.out | refine below_set ?_ GE164.out) | exact HB.out)) hb); clear HO_6; clear HO163; clear BK158; clear BK164; clear HB; have HO_6 := n0_; have HO163 := n1_; have BK158 := n2_; have BK164 := n3_; have HB := n4_; clear n0_ n1_ n2_ n3_ n4_; (try clear hb); (try clear hb2); (try clear hk); (try clear hi); have hcz27_0 : w26.cell? ⟨gb164, 0, none⟩ = some (.int .i64 t156) := (blk_cell BK164.out 0).trans rfl; have hcz27_1 : w26.cell? ⟨gb164, 1, none⟩ = some (.int .i64 t157) := (blk_cell BK164.out 1).trans rfl; have hfz27_0 := blk_frozen BK164.out 0; have hfz27_1 := blk_frozen BK164.out 1))
              (try simp only [← hl6_1])
              go_roundg k1
              case measure => have := HK1.out; omega
              case rel => exact ⟨(t160), (y161), t165, t166, gb164, rfl, GE164, H', ⟨by have := HK1.out; omega⟩, ⟨by (try simp only [hl6_1]); (with_reducible repeat (first | apply Kd.R_alloc | apply Kd.R_drewN | apply Kd.R_drew)); exact Kd.R_mono (Kd.R_far (p := ⟨gb164, 1, none⟩) (Kd.R_far (p := ⟨gb164, 0, none⟩) (Kd.R_types HO_6.out BK164.out (by decide)) (fun _ hk => hk.2) (.int .i64 t165)) (fun _ hk => hk.2) (.int .i64 t166)) (fun _ hk => trivial)⟩, ⟨by (try simp only [hl6_1]); (with_reducible repeat (first | apply Kd.R_alloc | apply Kd.R_drewN | apply Kd.R_drew)); exact Kd.R_mono (Kd.R_far (p := ⟨gb164, 1, none⟩) (Kd.R_far (p := ⟨gb164, 0, none⟩) (Kd.R_mono HO163.out (fun k_ hk => (⟨hk, hk.2⟩ : _ ∧ k_ ≠ gb164))) (fun _ hk => hk.2) (.int .i64 t165)) (fun _ hk => hk.2) (.int .i64 t166)) (fun _ hk => hk.2)⟩, ⟨by (try simp only [hl6_1]); (with_reducible repeat (first | refine blk_drewN ?_ _ | refine blk_drew ?_ | refine blk_alloc ?_ _)); refine blk_put (cs := #[.int .i64 t165, .int .i64 t157]) ?_ 1 _ rfl; (with_reducible repeat (first | refine blk_drewN ?_ _ | refine blk_drew ?_ | refine blk_alloc ?_ _)); refine blk_put (cs := #[.int .i64 t156, .int .i64 t157]) ?_ 0 _ rfl; (with_reducible repeat (first | refine blk_drewN ?_ _ | refine blk_drew ?_ | refine blk_alloc ?_ _)); exact BK164.out⟩, ⟨by repeat (first | (with_reducible first | exact HB.out | apply below_alloc | apply pw_below_drewN | apply below_drew1 | refine below_set ?_ GE158.out | refine below_set ?_ GE164.out) | exact HB.out)⟩⟩
            · rw [if_neg c16] at H
              exact absurd H (by simp)
          · rw [if_neg c14] at H
            have c14b0 : decide (0 ≤ t156) = false := decide_eq_false c14
            clear c14
            simp only [Option.some.injEq, Prod.mk.injEq] at H
            obtain ⟨rfl, rfl⟩ := H
            have hcz28_0 : wr.cell? ⟨gb158, 0, none⟩ = some (.int .i64 t156) := (blk_cell BK158.out 0).trans rfl
            have hcz28_1 : wr.cell? ⟨gb158, 1, none⟩ = some (.int .i64 t157) := (blk_cell BK158.out 1).trans rfl
            have hfz28_0 := blk_frozen BK158.out 0
            have hfz28_1 := blk_frozen BK158.out 1
            go_wp2
            go_ret2
            exact ⟨_, by first | rfl | (simp [errW_none, errW_some] <;> rfl) | (simp [*, errW_none, errW_some] <;> rfl), by (with_reducible repeat (first | apply Kd.R_alloc | apply Kd.R_drewN | apply Kd.R_drew)); exact Kd.R_mono HO_7.out (fun _ hk => trivial), by repeat (first | (with_reducible first | exact HB.out | apply below_alloc | apply pw_below_drewN | apply below_drew1 | refine below_set ?_ GE158.out) | exact HB.out)⟩
    · rw [if_neg c5] at H
      exact absurd H (by simp)
  · replace c4 := Bool.eq_false_iff.mpr c4
    subst c4
    have H1 : (some (([] : List (S39)), false)) = some (r1, r2) := by rw [if_neg (show ¬ (false = true) by decide)] at H; exact H
    clear H
    have H := H1
    clear H1
    simp only [Option.some.injEq, Prod.mk.injEq] at H
    obtain ⟨rfl, rfl⟩ := H
    go_enter Try.func37, Try.ntmps37
    go_wp2_with (first | ((with_reducible refine gate_callee (f := 67) rfl ?_); refine goesL_ (some 11) rfl rfl Try.func67 (by kernel_rfl) rfl #[.slice A0 l0.length c0, .slice A1 l1.length c1] rfl (by (try simp only [List.map_toArray, List.map_cons, List.map_nil]); first | done | rfl | (simp only [List.length_drop, List.length_take]; rfl)) ?_; (with_reducible refine (spec_l10Both.calls k _ _ l0 _ _ l1 false _ ?side1 ?side2 ?side3 ?side4 A3.out).mono ?_); (case side1 => repeat (first | exact HR0.out | (with_reducible refine Kd.C_alloc ?_ _) | (with_reducible refine Kd.C_drewN ?_ _) | (with_reducible refine Kd.C_drew ?_))); (case side2 => exact HC0.out); (case side3 => repeat (first | exact HR1.out | (with_reducible refine Kd.C_alloc ?_ _) | (with_reducible refine Kd.C_drewN ?_ _) | (with_reducible refine Kd.C_drew ?_))); (case side4 => exact HC1.out); rintro e w' ⟨rfl, ⟨nd, rfl⟩⟩; refine ⟨_, rfl, ?_⟩))
    go_ret2
    exact ⟨_, by first | rfl | (simp [errW_none, errW_some] <;> rfl) | (simp [*, errW_none, errW_some] <;> rfl), by first | exact Kd.R_nil _ _ _ _ _ | exact Kd.N_nil _ _ _ _ _ | exact Kd.V_nil _ _ _ _ _ | exact Kd.Q_nil _ _ _ _ _ | exact Kd.S_nil _ _ _ _ _, by repeat (first | (with_reducible first | exact HB.out | apply below_alloc | apply pw_below_drewN | apply below_drew1) | exact HB.out)⟩

/-! ### spec_l16Own: function 79 -/
def spec_l16Own.f (l0_0 l0_1 : List Int) (l0_2 l0_3 : List S39) (a0_4 : Int) : Option (List Int × List Int × (List (S39)) × (List (S39)) × Int) := if (l0_0.length < 4398046511104 ∧ l0_1.length < 4398046511104) ∧ (l0_2.length < 4398046511104 ∧ l0_3.length < 4398046511104) then some (l0_0, l0_1, l0_2, l0_3, a0_4) else none
def spec_l16Own.T1 : Bool × List (List Nat × List Nat) := (true, [([], []), ([], []), ([1], [1]), ([0, 2], [0, 2]), ([], []), ([], []), ([5], [5]), ([4, 6, 3], [4, 6]), ([], []), ([], []), ([9], [9]), ([8, 10, 7], [8, 10]), ([], []), ([], []), ([13], [13]), ([12, 14, 11], [12, 14]), ([], []), ([16], [16]), ([3, 7, 11, 15, 17], [3, 7, 11, 15, 17]), ([18, 15, 0, 1, 2, 3, 4, 5, 6, 7, 8, 9, 10, 11, 12, 13, 14, 15, 16, 17, 18], [18])])
def spec_l16Own.B1 : List Nat := [0, 0, 2, 7, 0, 0, 32, 127, 0, 0, 512, 2047, 0, 0, 8192, 32767, 0, 65536, 262143, 524287]
theorem spec_l16Own.tab1 : rtab .any (opsOf Try.f79 1) = spec_l16Own.T1 := by kernel_rfl
theorem spec_l16Own.bits1 : waitsOk spec_l16Own.T1.2 spec_l16Own.B1 = true := by kernel_rfl
theorem spec_l16Own.col_grown {α : Type} {d : Kd α} {e base : Nat} {W w1 : World} {col : Nat → Nat} {i j : Nat} {v : Value} {xs : List α} {row : Option Nat} (h : d.R e W base (fun k_ => col k_ = i) v xs) (hu : ∀ k, row = some k → col k ≠ i) (hij : j ≠ i) (hg : W.grownBy w1 row) : d.R e w1 base (fun k_ => (if W.heap.size ≤ k_ then j else col k_) = i) v xs := by
  refine Kd.R_mono (Kd.R_step (Kd.R_bound h) (fun k hk hlt => hg.block k hlt (fun e => hu k e.symm hk.1))) (fun k hk => ?_)
  show (if W.heap.size ≤ k then j else col k) = i
  rw [if_neg (by have := hk.2.2.1; omega)]
  exact hk.1
theorem spec_l16Own.col_own {α : Type} {d : Kd α} {e base : Nat} {W : World} {col : Nat → Nat} {i : Nat} {v : Value} {xs : List α} (h : d.R e W base (fun k_ => col k_ = i) v xs) : d.R e W base (fun k_ => (if W.heap.size ≤ k_ then i else col k_) = i) v xs := by
  refine Kd.R_mono h (fun k hk => ?_)
  show (if W.heap.size ≤ k then i else col k) = i
  split
  · rfl
  · exact hk
theorem spec_l16Own.far_base {α : Type} {d : Kd α} {e base g j : Nat} {W : World} {ok : Nat → Prop} {v u : Value} {xs : List α} (h : d.R e W base ok v xs) (hg : g < base) : d.R e (W.setCell ⟨g, j, none⟩ u) base ok v xs :=
  Kd.R_mono (Kd.R_far (p := ⟨g, j, none⟩) (Kd.R_bound h) (fun k hk => by have := hk.2.1; show k ≠ g; omega) u) (fun _ hk => hk.1)
set_option maxHeartbeats 8000000 in
set_option maxRecDepth 100000 in
theorem spec_l16Own.calls (A0_0 : Option Addr) (c0_0 : Nat) (l0_0 : List Int) (A0_1 : Option Addr) (c0_1 : Nat) (l0_1 : List Int) (A0_2 : Option Addr) (c0_2 : Nat) (l0_2 : List S39) (A0_3 : Option Addr) (c0_3 : Nat) (l0_3 : List S39) (a0_4 : Int) (r1 r2 : List Int) (r3 r4 : List S39) (r5 : Int) (w : World) (hr0_0 : Kd.C (Kd.int .i64) w A0_0 l0_0.length l0_0) (hc0_0 : l0_0.length ≤ c0_0) (hr0_1 : Kd.C (Kd.int .i64) w A0_1 l0_1.length l0_1) (hc0_1 : l0_1.length ≤ c0_1) (hr0_2 : Kd.C (k39) w A0_2 l0_2.length l0_2) (hc0_2 : l0_2.length ≤ c0_2) (hr0_3 : Kd.C (k39) w A0_3 l0_3.length l0_3) (hc0_3 : l0_3.length ≤ c0_3) (h : spec_l16Own.f l0_0 l0_1 l0_2 l0_3 a0_4 = some (r1, r2, r3, r4, r5)) :
    Calls Try.prog 79 #[.agg #[.slice A0_0 l0_0.length c0_0, .slice A0_1 l0_1.length c0_1, .slice A0_2 l0_2.length c0_2, .slice A0_3 l0_3.length c0_3, .int .i64 a0_4]] w fun e w' => ∃ v0_ v1_ v2_ v3_ : Value, e = .returned (.agg #[v0_, v1_, v2_, v3_, .int .i64 r5]) ∧ Kd.R (Kd.int .i64) 3 w' w.heap.size (fun k_ => some k_ ≠ (v1_ : Value).ownBlock) v0_ r1 ∧ Kd.R (Kd.int .i64) 3 w' w.heap.size (fun k_ => some k_ ≠ (v0_ : Value).ownBlock) v1_ r2 ∧ Kd.R k39 39 w' w.heap.size (fun k_ => some k_ ≠ (v3_ : Value).ownBlock) v2_ r3 ∧ Kd.R k39 39 w' w.heap.size (fun k_ => some k_ ≠ (v2_ : Value).ownBlock) v3_ r4 ∧ Below w.heap.size w w' := by
  have hu55 := Try.underlying55
  unfold spec_l16Own.f at h
  split at h
  case isFalse => cases h
  case isTrue hl =>
  simp only [Option.some.injEq, Prod.mk.injEq] at h
  obtain ⟨rfl, rfl, rfl, rfl, rfl⟩ := h
  have HL := Aside0.mk hl
  clear hl
  have HR0_0 := Aside0.mk hr0_0
  clear hr0_0 hc0_0
  have HR0_1 := Aside0.mk hr0_1
  clear hr0_1 hc0_1
  have HR0_2 := Aside0.mk hr0_2
  clear hr0_2 hc0_2
  have HR0_3 := Aside0.mk hr0_3
  clear hr0_3 hc0_3
  go_enter Try.func79, Try.ntmps79
  try go_wp2_with (first | ((with_reducible refine gate_dst (N := 1) rfl ?_); refine box_event ?hg (N := 1) ?hd (cs := #[.slice A0_0 l0_0.length c0_0, .slice A0_1 l0_1.length c0_1, .slice A0_2 l0_2.length c0_2, .slice A0_3 l0_3.length c0_3, .int .i64 a0_4]) (t := 55) ?hr ?_; (case hd => rfl); (case hg => rfl); (case hr => first | (go_simp; done) | (go_simp; rfl)); intro gb1 hg_ w1 hbox hb; have BK1 := Aside0.mk hbox; have HBW := Aside0.mk hb; have GE1 := Aside0.mk (Nat.le_of_eq hg_.symm); clear hg_ hbox hb) | ((with_reducible refine gate_dst (N := 2) rfl ?_); refine box_event ?hg (N := 2) ?hd (cs := #[.slice none 0 0, .slice none 0 0, .slice none 0 0, .slice none 0 0, .int .i64 0]) (t := 55) ?hr ?_; (case hd => rfl); (case hg => rfl); (case hr => first | (go_simp; done) | (go_simp; rfl)); intro gb2 hg_ w2 hbox hb; replace BK1 := Aside0.mk (blk_below BK1.out hb); have BK2 := Aside0.mk hbox; have GE2 := Aside0.mk (show w.heap.size ≤ gb2 from Nat.le_trans HBW.out.size (Nat.le_of_eq hg_.symm)); replace HBW := Aside0.mk (below_step HBW.out hb); clear hg_ hbox hb))
  replace BK1 := Aside0.mk (blk_drew BK1.out)
  replace BK2 := Aside0.mk (blk_drew BK2.out)
  replace HBW := Aside0.mk (below_drew1 HBW.out)
  have BG2 := Aside0.mk (blk_lt BK2.out)
  have HI := Aside0.mk (Below.refl w2.drew.heap.size w2.drew)
  refine start_ (n := 20) (S := fun w' => True) (ds := []) #[false, false, false, false, false, false, false, false, false, false, false, false, false, false, false, false, false, false, false, false] (by kernel_rfl) rfl rfl trivial (fun hHeld => ?_); refine with_tabW spec_l16Own.tab1 spec_l16Own.bits1 (fun HT_ HW_ => ?_)
  generalize w2.drew = w3 at BK1 BK2 HBW HI BG2 ⊢
  refine pure_ (i := 1) (N := some 4) (v := ?_) (a' := ?_) #[false, true, false, false, false, false, false, false, false, false, false, false, false, false, false, false, false, false, false, false] rfl rfl (by kernel_rfl) (fun _ _ _ h => h) (Or.inl ⟨by rfl, ?_⟩) ?_ ?_
  rotate_left
  · intro w'
    go_simp
    with_reducible rfl
  rotate_left
  · simp only [Act.put, List.setIfInBounds_toArray, List.set_cons_zero, List.set_cons_succ, i64_w, i32_w]
    rfl
  refine pure_ (i := 5) (N := some 8) (v := ?_) (a' := ?_) #[false, true, false, false, false, true, false, false, false, false, false, false, false, false, false, false, false, false, false, false] rfl rfl (by kernel_rfl) (fun _ _ _ h => h) (Or.inl ⟨by rfl, ?_⟩) ?_ ?_
  rotate_left
  · intro w'
    go_simp
    with_reducible rfl
  rotate_left
  · simp only [Act.put, List.setIfInBounds_toArray, List.set_cons_zero, List.set_cons_succ, i64_w, i32_w]
    rfl
  refine pure_ (i := 9) (N := some 12) (v := ?_) (a' := ?_) #[false, true, false, false, false, true, false, false, false, true, false, false, false, false, false, false, false, false, false, false] rfl rfl (by kernel_rfl) (fun _ _ _ h => h) (Or.inl ⟨by rfl, ?_⟩) ?_ ?_
  rotate_left
  · intro w'
    go_simp
    with_reducible rfl
  rotate_left
  · simp only [Act.put, List.setIfInBounds_toArray, List.set_cons_zero, List.set_cons_succ, i64_w, i32_w]
    rfl
  refine pure_ (i := 13) (N := some 16) (v := ?_) (a' := ?_) #[false, true, false, false, false, true, false, false, false, true, false, false, false, true, false, false, false, false, false, false] rfl rfl (by kernel_rfl) (fun _ _ _ h => h) (Or.inl ⟨by rfl, ?_⟩) ?_ ?_
  rotate_left
  · intro w'
    go_simp
    with_reducible rfl
  rotate_left
  · simp only [Act.put, List.setIfInBounds_toArray, List.set_cons_zero, List.set_cons_succ, i64_w, i32_w]
    rfl
  refine pure_ (i := 16) (N := some 19) (v := ?_) (a' := ?_) #[false, true, false, false, false, true, false, false, false, true, false, false, false, true, false, false, true, false, false, false] rfl rfl (by kernel_rfl) (fun _ _ _ h => h) (Or.inl ⟨by rfl, ?_⟩) ?_ ?_
  rotate_left
  · intro w'
    go_simp
    with_reducible rfl
  rotate_left
  · simp only [Act.put, List.setIfInBounds_toArray, List.set_cons_zero, List.set_cons_succ, i64_w, i32_w]
    rfl
  refine inv_at [0, 2, 3, 4, 6, 7, 8, 10, 11, 12, 14, 15, 17, 18, 19] (fun a0_ b a w' => ∃ (col : Nat → Nat) (m0 : Value) (v0 : Value) (m1 : Value) (v1 : Value) (m2 : Value) (v2 : Value) (m3 : Value) (v3 : Value) (m18_ : Value), a = putSel a0_ b [(0, 3, m0), (2, 5, .slice A0_0 l0_0.length c0_0), (3, 6, v0), (4, 7, m1), (6, 9, .slice A0_1 l0_1.length c0_1), (7, 10, v1), (8, 11, m2), (10, 13, .slice A0_2 l0_2.length c0_2), (11, 14, v2), (12, 15, m3), (14, 17, .slice A0_3 l0_3.length c0_3), (15, 18, v3), (17, 20, .int .i64 a0_4), (18, 21, m18_)] ∧ (b 19 = false → Below w3.heap.size w3 w') ∧ (b 0 = true → b 3 = false → Kd.R (Kd.int .i64) 3 w' w3.heap.size (fun k_ => col k_ = 0) m0 ([] : List Int)) ∧ (b 3 = true → Kd.R (Kd.int .i64) 3 w' w3.heap.size (fun k_ => col k_ = 0) v0 l0_0) ∧ (b 4 = true → b 7 = false → Kd.R (Kd.int .i64) 3 w' w3.heap.size (fun k_ => col k_ = 1) m1 ([] : List Int)) ∧ (b 7 = true → Kd.R (Kd.int .i64) 3 w' w3.heap.size (fun k_ => col k_ = 1) v1 l0_1) ∧ (b 8 = true → b 11 = false → Kd.R (k39) 39 w' w3.heap.size (fun k_ => col k_ = 2) m2 ([] : List S39)) ∧ (b 11 = true → Kd.R (k39) 39 w' w3.heap.size (fun k_ => col k_ = 2) v2 l0_2) ∧ (b 12 = true → b 15 = false → Kd.R (k39) 39 w' w3.heap.size (fun k_ => col k_ = 3) m3 ([] : List S39)) ∧ (b 15 = true → Kd.R (k39) 39 w' w3.heap.size (fun k_ => col k_ = 3) v3 l0_3) ∧ (b 19 = true → Below w.heap.size w w' ∧ w'.heap[gb2]? = some (.cells #[v0, v1, v2, v3, .int .i64 a0_4] 55 (0, 0))) ∧ (b 18 = true → (m18_ : Value) = .agg #[v0, v1, v2, v3, .int .i64 a0_4])) HT_.out HW_.out (by kernel_rfl) (by kernel_rfl) ?_ ?_ ?_
  · exact ⟨(fun _ => 9), (.bool false), (.bool false), (.bool false), (.bool false), (.bool false), (.bool false), (.bool false), (.bool false), .bool false, by simp only [putSel, Bool.false_eq_true, if_false], fun _ => HI.out, fun h_ => absurd h_ (by decide), fun h_ => absurd h_ (by decide), fun h_ => absurd h_ (by decide), fun h_ => absurd h_ (by decide), fun h_ => absurd h_ (by decide), fun h_ => absurd h_ (by decide), fun h_ => absurd h_ (by decide), fun h_ => absurd h_ (by decide), fun h_ => absurd h_ (by decide), fun h_ => absurd h_ (by decide)⟩
  · skip
    clear HI
    refine steps_cons ?_ ?_
    · rintro b a w' ⟨col, m0, v0, m1, v1, m2, v2, m3, v3, m18_, ha, Q_HI, Q_RA0, Q_RB0, Q_RA1, Q_RB1, Q_RA2, Q_RB2, Q_RA3, Q_RB3, Q_FIN, Q_X18_⟩ hb_ hon hoff
      refine ⟨_, rfl, fun K hK => ?_⟩
      replace ha := Aside0.mk ha
      have HI := Aside0.mk (Q_HI (hoff 19 (by kernel_rfl)))
      refine Kd.R_lit_step (Kd.int .i64) (w0 := w3) w3.heap.size 3 ?hg (N := 3) ?hd (xs := ([] : List Int)) (inner := []) (ok := fun k_ => (if w'.heap.size ≤ k_ then 0 else col k_) = 0) (okp := fun _ => False) ?hr (Reps.none _ _) (fun _ hk_ => hk_.elim) (if_pos (Nat.le_refl _)) HI.out HI.out.size (by simp) ?_; (case hd => rfl); (case hg => rfl); (case hr => first | (go_simp; done) | (go_simp; rfl))
      intro u_ w4 hu_ hb_4 hg_4 _
      refine hK.out _ _ ⟨(fun k_ => if w'.heap.size ≤ k_ then 0 else col k_), u_, v0, m1, v1, m2, v2, m3, v3, m18_, (by rw [ha.out]; exact putSel_upk 0 hb_ rfl rfl rfl), fun _ => hb_4, fun _ _ => hu_, fun h0_ => absurd ((hoff 3 (by kernel_rfl)).symm.trans h0_) (by decide), fun h0_ h1_ => spec_l16Own.col_grown (Q_RA1 h0_ h1_) (fun _ e_ => by cases e_) (by decide) hg_4, fun h0_ => absurd ((hoff 7 (by kernel_rfl)).symm.trans h0_) (by decide), fun h0_ h1_ => spec_l16Own.col_grown (Q_RA2 h0_ h1_) (fun _ e_ => by cases e_) (by decide) hg_4, fun h0_ => absurd ((hoff 11 (by kernel_rfl)).symm.trans h0_) (by decide), fun h0_ h1_ => spec_l16Own.col_grown (Q_RA3 h0_ h1_) (fun _ e_ => by cases e_) (by decide) hg_4, fun h0_ => absurd ((hoff 15 (by kernel_rfl)).symm.trans h0_) (by decide), fun h0_ => absurd ((hoff 19 (by kernel_rfl)).symm.trans h0_) (by decide), fun h0_ => absurd ((hoff 18 (by kernel_rfl)).symm.trans h0_) (by decide)⟩
    refine steps_cons ?_ ?_
    · rintro b a w' ⟨col, m0, v0, m1, v1, m2, v2, m3, v3, m18_, ha, Q_HI, Q_RA0, Q_RB0, Q_RA1, Q_RB1, Q_RA2, Q_RB2, Q_RA3, Q_RB3, Q_FIN, Q_X18_⟩ hb_ hon hoff
      refine ⟨_, rfl, fun K hK => ?_⟩
      have e4 : a.tmps[4]? = some (.pointer (some ⟨gb1, 0, none⟩)) := by rw [ha]; exact (putSel_off rfl).trans rfl
      replace ha := Aside0.mk ha
      have HI := Aside0.mk (Q_HI (hoff 19 (by kernel_rfl)))
      have kx_ : w'.cell? ⟨gb1, 0, none⟩ = some (.slice A0_0 l0_0.length c0_0) := (blk_cell (blk_below BK1.out HI.out) 0).trans rfl
      refine value_ (w1 := w') (v := .slice A0_0 l0_0.length c0_0) (by rfl) rfl ?_ ?_
      · go_simp
        (try simp only [i64_w])
        try rfl
      refine hK.out _ _ ⟨col, m0, v0, m1, v1, m2, v2, m3, v3, m18_, (by rw [ha.out]; exact putSel_upk 1 hb_ rfl rfl rfl), Q_HI, Q_RA0, fun h0_ => absurd ((hoff 3 (by kernel_rfl)).symm.trans h0_) (by decide), Q_RA1, fun h0_ => absurd ((hoff 7 (by kernel_rfl)).symm.trans h0_) (by decide), Q_RA2, fun h0_ => absurd ((hoff 11 (by kernel_rfl)).symm.trans h0_) (by decide), Q_RA3, fun h0_ => absurd ((hoff 15 (by kernel_rfl)).symm.trans h0_) (by decide), fun h0_ => absurd ((hoff 19 (by kernel_rfl)).symm.trans h0_) (by decide), fun h0_ => absurd ((hoff 18 (by kernel_rfl)).symm.trans h0_) (by decide)⟩
    refine steps_cons ?_ ?_
    · rintro b a w' ⟨col, m0, v0, m1, v1, m2, v2, m3, v3, m18_, ha, Q_HI, Q_RA0, Q_RB0, Q_RA1, Q_RB1, Q_RA2, Q_RB2, Q_RA3, Q_RB3, Q_FIN, Q_X18_⟩ hb_ hon hoff
      refine ⟨_, rfl, fun K hK => ?_⟩
      have e3 : a.tmps[3]? = some (m0) := by rw [ha]; exact putSel_on (e := (0, 3, m0)) 0 rfl rfl (hon 0 (by kernel_rfl)) rfl
      have e5 : a.tmps[5]? = some (.slice A0_0 l0_0.length c0_0) := by rw [ha]; exact putSel_on (e := (2, 5, .slice A0_0 l0_0.length c0_0)) 1 rfl rfl (hon 2 (by kernel_rfl)) rfl
      replace ha := Aside0.mk ha
      have HI := Aside0.mk (Q_HI (hoff 19 (by kernel_rfl)))
      have RA0 := Aside0.mk (Q_RA0 (hon 0 (by kernel_rfl)) hb_)
      refine Kd.R_append_rows_step (Kd.int .i64) (w0 := w3) w3.heap.size (by rfl) (.tmp 3) (.tmp 5) 22 3 (.int .i64 0) 8 rfl Try.underlying22 info3 rfl (by decide) (by omega) m0 ([] : List Int) l0_0 A0_0 l0_0.length c0_0 (fun k_ => (if w'.heap.size ≤ k_ then 0 else col k_) = 0) (fun _ => False) (eval_of e3) (eval_of e5) (spec_l16Own.col_own RA0.out) (Kd.C_below HR0_0.out (HBW.out.trans (HI.out.mono HBW.out.size))) (fun _ _ h_ => h_) (fun _ h_ => h_.elim) (fun k_ h_ => if_pos h_) HI.out HI.out.size (by have := HL.out; simp only [List.length_nil]; omega) ?_
      intro u_ w4 hu_ hb_4 hg_4 _
      rw [List.nil_append] at hu_
      refine hK.out _ _ ⟨(fun k_ => if w'.heap.size ≤ k_ then 0 else col k_), m0, u_, m1, v1, m2, v2, m3, v3, m18_, (by rw [ha.out]; exact putSel_upk 2 hb_ rfl rfl rfl), fun _ => hb_4, fun _ h1_ => absurd ((up_self b 3).symm.trans h1_) (by decide), fun _ => hu_, fun h0_ h1_ => spec_l16Own.col_grown (Q_RA1 h0_ h1_) (fun k_ e_ h_ => absurd ((show col k_ = 0 from RA0.out.1 k_ e_).symm.trans h_) (by decide)) (by decide) hg_4, fun h0_ => absurd ((hoff 7 (by kernel_rfl)).symm.trans h0_) (by decide), fun h0_ h1_ => spec_l16Own.col_grown (Q_RA2 h0_ h1_) (fun k_ e_ h_ => absurd ((show col k_ = 0 from RA0.out.1 k_ e_).symm.trans h_) (by decide)) (by decide) hg_4, fun h0_ => absurd ((hoff 11 (by kernel_rfl)).symm.trans h0_) (by decide), fun h0_ h1_ => spec_l16Own.col_grown (Q_RA3 h0_ h1_) (fun k_ e_ h_ => absurd ((show col k_ = 0 from RA0.out.1 k_ e_).symm.trans h_) (by decide)) (by decide) hg_4, fun h0_ => absurd ((hoff 15 (by kernel_rfl)).symm.trans h0_) (by decide), fun h0_ => absurd ((hoff 19 (by kernel_rfl)).symm.trans h0_) (by decide), fun h0_ => absurd ((hoff 18 (by kernel_rfl)).symm.trans h0_) (by decide)⟩
    refine steps_cons ?_ ?_
    · rintro b a w' ⟨col, m0, v0, m1, v1, m2, v2, m3, v3, m18_, ha, Q_HI, Q_RA0, Q_RB0, Q_RA1, Q_RB1, Q_RA2, Q_RB2, Q_RA3, Q_RB3, Q_FIN, Q_X18_⟩ hb_ hon hoff
      refine ⟨_, rfl, fun K hK => ?_⟩
      replace ha := Aside0.mk ha
      have HI := Aside0.mk (Q_HI (hoff 19 (by kernel_rfl)))
      refine Kd.R_lit_step (Kd.int .i64) (w0 := w3) w3.heap.size 3 ?hg (N := 7) ?hd (xs := ([] : List Int)) (inner := []) (ok := fun k_ => (if w'.heap.size ≤ k_ then 1 else col k_) = 1) (okp := fun _ => False) ?hr (Reps.none _ _) (fun _ hk_ => hk_.elim) (if_pos (Nat.le_refl _)) HI.out HI.out.size (by simp) ?_; (case hd => rfl); (case hg => rfl); (case hr => first | (go_simp; done) | (go_simp; rfl))
      intro u_ w4 hu_ hb_4 hg_4 _
      refine hK.out _ _ ⟨(fun k_ => if w'.heap.size ≤ k_ then 1 else col k_), m0, v0, u_, v1, m2, v2, m3, v3, m18_, (by rw [ha.out]; exact putSel_upk 3 hb_ rfl rfl rfl), fun _ => hb_4, fun h0_ h1_ => spec_l16Own.col_grown (Q_RA0 h0_ h1_) (fun _ e_ => by cases e_) (by decide) hg_4, fun h0_ => spec_l16Own.col_grown (Q_RB0 h0_) (fun _ e_ => by cases e_) (by decide) hg_4, fun _ _ => hu_, fun h0_ => absurd ((hoff 7 (by kernel_rfl)).symm.trans h0_) (by decide), fun h0_ h1_ => spec_l16Own.col_grown (Q_RA2 h0_ h1_) (fun _ e_ => by cases e_) (by decide) hg_4, fun h0_ => absurd ((hoff 11 (by kernel_rfl)).symm.trans h0_) (by decide), fun h0_ h1_ => spec_l16Own.col_grown (Q_RA3 h0_ h1_) (fun _ e_ => by cases e_) (by decide) hg_4, fun h0_ => absurd ((hoff 15 (by kernel_rfl)).symm.trans h0_) (by decide), fun h0_ => absurd ((hoff 19 (by kernel_rfl)).symm.trans h0_) (by decide), fun h0_ => absurd ((hoff 18 (by kernel_rfl)).symm.trans h0_) (by decide)⟩
    refine steps_cons ?_ ?_
    · rintro b a w' ⟨col, m0, v0, m1, v1, m2, v2, m3, v3, m18_, ha, Q_HI, Q_RA0, Q_RB0, Q_RA1, Q_RB1, Q_RA2, Q_RB2, Q_RA3, Q_RB3, Q_FIN, Q_X18_⟩ hb_ hon hoff
      refine ⟨_, rfl, fun K hK => ?_⟩
      have e8 : a.tmps[8]? = some (.pointer (some ⟨gb1, 1, none⟩)) := by rw [ha]; exact (putSel_off rfl).trans rfl
      replace ha := Aside0.mk ha
      have HI := Aside0.mk (Q_HI (hoff 19 (by kernel_rfl)))
      have kx_ : w'.cell? ⟨gb1, 1, none⟩ = some (.slice A0_1 l0_1.length c0_1) := (blk_cell (blk_below BK1.out HI.out) 1).trans rfl
      refine value_ (w1 := w') (v := .slice A0_1 l0_1.length c0_1) (by rfl) rfl ?_ ?_
      · go_simp
        (try simp only [i64_w])
        try rfl
      refine hK.out _ _ ⟨col, m0, v0, m1, v1, m2, v2, m3, v3, m18_, (by rw [ha.out]; exact putSel_upk 4 hb_ rfl rfl rfl), Q_HI, Q_RA0, Q_RB0, Q_RA1, fun h0_ => absurd ((hoff 7 (by kernel_rfl)).symm.trans h0_) (by decide), Q_RA2, fun h0_ => absurd ((hoff 11 (by kernel_rfl)).symm.trans h0_) (by decide), Q_RA3, fun h0_ => absurd ((hoff 15 (by kernel_rfl)).symm.trans h0_) (by decide), fun h0_ => absurd ((hoff 19 (by kernel_rfl)).symm.trans h0_) (by decide), fun h0_ => absurd ((hoff 18 (by kernel_rfl)).symm.trans h0_) (by decide)⟩
    refine steps_cons ?_ ?_
    · rintro b a w' ⟨col, m0, v0, m1, v1, m2, v2, m3, v3, m18_, ha, Q_HI, Q_RA0, Q_RB0, Q_RA1, Q_RB1, Q_RA2, Q_RB2, Q_RA3, Q_RB3, Q_FIN, Q_X18_⟩ hb_ hon hoff
      refine ⟨_, rfl, fun K hK => ?_⟩
      have e7 : a.tmps[7]? = some (m1) := by rw [ha]; exact putSel_on (e := (4, 7, m1)) 3 rfl rfl (hon 4 (by kernel_rfl)) rfl
      have e9 : a.tmps[9]? = some (.slice A0_1 l0_1.length c0_1) := by rw [ha]; exact putSel_on (e := (6, 9, .slice A0_1 l0_1.length c0_1)) 4 rfl rfl (hon 6 (by kernel_rfl)) rfl
      replace ha := Aside0.mk ha
      have HI := Aside0.mk (Q_HI (hoff 19 (by kernel_rfl)))
      have RB0 := Aside0.mk (Q_RB0 (hon 3 (by kernel_rfl)))
      have RA1 := Aside0.mk (Q_RA1 (hon 4 (by kernel_rfl)) hb_)
      refine Kd.R_append_rows_step (Kd.int .i64) (w0 := w3) w3.heap.size (by rfl) (.tmp 7) (.tmp 9) 22 3 (.int .i64 0) 8 rfl Try.underlying22 info3 rfl (by decide) (by omega) m1 ([] : List Int) l0_1 A0_1 l0_1.length c0_1 (fun k_ => (if w'.heap.size ≤ k_ then 1 else col k_) = 1) (fun _ => False) (eval_of e7) (eval_of e9) (spec_l16Own.col_own RA1.out) (Kd.C_below HR0_1.out (HBW.out.trans (HI.out.mono HBW.out.size))) (fun _ _ h_ => h_) (fun _ h_ => h_.elim) (fun k_ h_ => if_pos h_) HI.out HI.out.size (by have := HL.out; simp only [List.length_nil]; omega) ?_
      intro u_ w4 hu_ hb_4 hg_4 _
      rw [List.nil_append] at hu_
      refine hK.out _ _ ⟨(fun k_ => if w'.heap.size ≤ k_ then 1 else col k_), m0, v0, m1, u_, m2, v2, m3, v3, m18_, (by rw [ha.out]; exact putSel_upk 5 hb_ rfl rfl rfl), fun _ => hb_4, fun _ h1_ => absurd ((hon 3 (by kernel_rfl)).symm.trans h1_) (by decide), fun _ => spec_l16Own.col_grown RB0.out (fun k_ e_ h_ => absurd ((show col k_ = 1 from RA1.out.1 k_ e_).symm.trans h_) (by decide)) (by decide) hg_4, fun _ h1_ => absurd ((up_self b 7).symm.trans h1_) (by decide), fun _ => hu_, fun h0_ h1_ => spec_l16Own.col_grown (Q_RA2 h0_ h1_) (fun k_ e_ h_ => absurd ((show col k_ = 1 from RA1.out.1 k_ e_).symm.trans h_) (by decide)) (by decide) hg_4, fun h0_ => absurd ((hoff 11 (by kernel_rfl)).symm.trans h0_) (by decide), fun h0_ h1_ => spec_l16Own.col_grown (Q_RA3 h0_ h1_) (fun k_ e_ h_ => absurd ((show col k_ = 1 from RA1.out.1 k_ e_).symm.trans h_) (by decide)) (by decide) hg_4, fun h0_ => absurd ((hoff 15 (by kernel_rfl)).symm.trans h0_) (by decide), fun h0_ => absurd ((hoff 19 (by kernel_rfl)).symm.trans h0_) (by decide), fun h0_ => absurd ((hoff 18 (by kernel_rfl)).symm.trans h0_) (by decide)⟩
    refine steps_cons ?_ ?_
    · rintro b a w' ⟨col, m0, v0, m1, v1, m2, v2, m3, v3, m18_, ha, Q_HI, Q_RA0, Q_RB0, Q_RA1, Q_RB1, Q_RA2, Q_RB2, Q_RA3, Q_RB3, Q_FIN, Q_X18_⟩ hb_ hon hoff
      refine ⟨_, rfl, fun K hK => ?_⟩
      replace ha := Aside0.mk ha
      have HI := Aside0.mk (Q_HI (hoff 19 (by kernel_rfl)))
      refine Kd.R_lit_step (k39) (w0 := w3) w3.heap.size 39 ?hg (N := 11) ?hd (xs := ([] : List S39)) (inner := []) (ok := fun k_ => (if w'.heap.size ≤ k_ then 2 else col k_) = 2) (okp := fun _ => False) ?hr (Reps.none _ _) (fun _ hk_ => hk_.elim) (if_pos (Nat.le_refl _)) HI.out HI.out.size (by simp) ?_; (case hd => rfl); (case hg => rfl); (case hr => first | (go_simp; done) | (go_simp; rfl))
      intro u_ w4 hu_ hb_4 hg_4 _
      refine hK.out _ _ ⟨(fun k_ => if w'.heap.size ≤ k_ then 2 else col k_), m0, v0, m1, v1, u_, v2, m3, v3, m18_, (by rw [ha.out]; exact putSel_upk 6 hb_ rfl rfl rfl), fun _ => hb_4, fun h0_ h1_ => spec_l16Own.col_grown (Q_RA0 h0_ h1_) (fun _ e_ => by cases e_) (by decide) hg_4, fun h0_ => spec_l16Own.col_grown (Q_RB0 h0_) (fun _ e_ => by cases e_) (by decide) hg_4, fun h0_ h1_ => spec_l16Own.col_grown (Q_RA1 h0_ h1_) (fun _ e_ => by cases e_) (by decide) hg_4, fun h0_ => spec_l16Own.col_grown (Q_RB1 h0_) (fun _ e_ => by cases e_) (by decide) hg_4, fun _ _ => hu_, fun h0_ => absurd ((hoff 11 (by kernel_rfl)).symm.trans h0_) (by decide), fun h0_ h1_ => spec_l16Own.col_grown (Q_RA3 h0_ h1_) (fun _ e_ => by cases e_) (by decide) hg_4, fun h0_ => absurd ((hoff 15 (by kernel_rfl)).symm.trans h0_) (by decide), fun h0_ => absurd ((hoff 19 (by kernel_rfl)).symm.trans h0_) (by decide), fun h0_ => absurd ((hoff 18 (by kernel_rfl)).symm.trans h0_) (by decide)⟩
    refine steps_cons ?_ ?_
    · rintro b a w' ⟨col, m0, v0, m1, v1, m2, v2, m3, v3, m18_, ha, Q_HI, Q_RA0, Q_RB0, Q_RA1, Q_RB1, Q_RA2, Q_RB2, Q_RA3, Q_RB3, Q_FIN, Q_X18_⟩ hb_ hon hoff
      refine ⟨_, rfl, fun K hK => ?_⟩
      have e12 : a.tmps[12]? = some (.pointer (some ⟨gb1, 2, none⟩)) := by rw [ha]; exact (putSel_off rfl).trans rfl
      replace ha := Aside0.mk ha
      have HI := Aside0.mk (Q_HI (hoff 19 (by kernel_rfl)))
      have kx_ : w'.cell? ⟨gb1, 2, none⟩ = some (.slice A0_2 l0_2.length c0_2) := (blk_cell (blk_below BK1.out HI.out) 2).trans rfl
      refine value_ (w1 := w') (v := .slice A0_2 l0_2.length c0_2) (by rfl) rfl ?_ ?_
      · go_simp
        (try simp only [i64_w])
        try rfl
      refine hK.out _ _ ⟨col, m0, v0, m1, v1, m2, v2, m3, v3, m18_, (by rw [ha.out]; exact putSel_upk 7 hb_ rfl rfl rfl), Q_HI, Q_RA0, Q_RB0, Q_RA1, Q_RB1, Q_RA2, fun h0_ => absurd ((hoff 11 (by kernel_rfl)).symm.trans h0_) (by decide), Q_RA3, fun h0_ => absurd ((hoff 15 (by kernel_rfl)).symm.trans h0_) (by decide), fun h0_ => absurd ((hoff 19 (by kernel_rfl)).symm.trans h0_) (by decide), fun h0_ => absurd ((hoff 18 (by kernel_rfl)).symm.trans h0_) (by decide)⟩
    refine steps_cons ?_ ?_
    · rintro b a w' ⟨col, m0, v0, m1, v1, m2, v2, m3, v3, m18_, ha, Q_HI, Q_RA0, Q_RB0, Q_RA1, Q_RB1, Q_RA2, Q_RB2, Q_RA3, Q_RB3, Q_FIN, Q_X18_⟩ hb_ hon hoff
      refine ⟨_, rfl, fun K hK => ?_⟩
      have e11 : a.tmps[11]? = some (m2) := by rw [ha]; exact putSel_on (e := (8, 11, m2)) 6 rfl rfl (hon 8 (by kernel_rfl)) rfl
      have e13 : a.tmps[13]? = some (.slice A0_2 l0_2.length c0_2) := by rw [ha]; exact putSel_on (e := (10, 13, .slice A0_2 l0_2.length c0_2)) 7 rfl rfl (hon 10 (by kernel_rfl)) rfl
      replace ha := Aside0.mk ha
      have HI := Aside0.mk (Q_HI (hoff 19 (by kernel_rfl)))
      have RB0 := Aside0.mk (Q_RB0 (hon 3 (by kernel_rfl)))
      have RB1 := Aside0.mk (Q_RB1 (hon 7 (by kernel_rfl)))
      have RA2 := Aside0.mk (Q_RA2 (hon 8 (by kernel_rfl)) hb_)
      refine Kd.R_append_rows_step (k39) (w0 := w3) w3.heap.size (by rfl) (.tmp 11) (.tmp 13) 28 39 (.agg #[(.int .i64 0), (.int .i64 0)]) 16 rfl Try.underlying28 info39 rfl (by decide) (by omega) m2 ([] : List S39) l0_2 A0_2 l0_2.length c0_2 (fun k_ => (if w'.heap.size ≤ k_ then 2 else col k_) = 2) (fun _ => False) (eval_of e11) (eval_of e13) (spec_l16Own.col_own RA2.out) (Kd.C_below HR0_2.out (HBW.out.trans (HI.out.mono HBW.out.size))) (fun _ _ h_ => h_) (fun _ h_ => h_.elim) (fun k_ h_ => if_pos h_) HI.out HI.out.size (by have := HL.out; simp only [List.length_nil]; omega) ?_
      intro u_ w4 hu_ hb_4 hg_4 _
      rw [List.nil_append] at hu_
      refine hK.out _ _ ⟨(fun k_ => if w'.heap.size ≤ k_ then 2 else col k_), m0, v0, m1, v1, m2, u_, m3, v3, m18_, (by rw [ha.out]; exact putSel_upk 8 hb_ rfl rfl rfl), fun _ => hb_4, fun _ h1_ => absurd ((hon 3 (by kernel_rfl)).symm.trans h1_) (by decide), fun _ => spec_l16Own.col_grown RB0.out (fun k_ e_ h_ => absurd ((show col k_ = 2 from RA2.out.1 k_ e_).symm.trans h_) (by decide)) (by decide) hg_4, fun _ h1_ => absurd ((hon 7 (by kernel_rfl)).symm.trans h1_) (by decide), fun _ => spec_l16Own.col_grown RB1.out (fun k_ e_ h_ => absurd ((show col k_ = 2 from RA2.out.1 k_ e_).symm.trans h_) (by decide)) (by decide) hg_4, fun _ h1_ => absurd ((up_self b 11).symm.trans h1_) (by decide), fun _ => hu_, fun h0_ h1_ => spec_l16Own.col_grown (Q_RA3 h0_ h1_) (fun k_ e_ h_ => absurd ((show col k_ = 2 from RA2.out.1 k_ e_).symm.trans h_) (by decide)) (by decide) hg_4, fun h0_ => absurd ((hoff 15 (by kernel_rfl)).symm.trans h0_) (by decide), fun h0_ => absurd ((hoff 19 (by kernel_rfl)).symm.trans h0_) (by decide), fun h0_ => absurd ((hoff 18 (by kernel_rfl)).symm.trans h0_) (by decide)⟩
    refine steps_cons ?_ ?_
    · rintro b a w' ⟨col, m0, v0, m1, v1, m2, v2, m3, v3, m18_, ha, Q_HI, Q_RA0, Q_RB0, Q_RA1, Q_RB1, Q_RA2, Q_RB2, Q_RA3, Q_RB3, Q_FIN, Q_X18_⟩ hb_ hon hoff
      refine ⟨_, rfl, fun K hK => ?_⟩
      replace ha := Aside0.mk ha
      have HI := Aside0.mk (Q_HI (hoff 19 (by kernel_rfl)))
      refine Kd.R_lit_step (k39) (w0 := w3) w3.heap.size 39 ?hg (N := 15) ?hd (xs := ([] : List S39)) (inner := []) (ok := fun k_ => (if w'.heap.size ≤ k_ then 3 else col k_) = 3) (okp := fun _ => False) ?hr (Reps.none _ _) (fun _ hk_ => hk_.elim) (if_pos (Nat.le_refl _)) HI.out HI.out.size (by simp) ?_; (case hd => rfl); (case hg => rfl); (case hr => first | (go_simp; done) | (go_simp; rfl))
      intro u_ w4 hu_ hb_4 hg_4 _
      refine hK.out _ _ ⟨(fun k_ => if w'.heap.size ≤ k_ then 3 else col k_), m0, v0, m1, v1, m2, v2, u_, v3, m18_, (by rw [ha.out]; exact putSel_upk 9 hb_ rfl rfl rfl), fun _ => hb_4, fun h0_ h1_ => spec_l16Own.col_grown (Q_RA0 h0_ h1_) (fun _ e_ => by cases e_) (by decide) hg_4, fun h0_ => spec_l16Own.col_grown (Q_RB0 h0_) (fun _ e_ => by cases e_) (by decide) hg_4, fun h0_ h1_ => spec_l16Own.col_grown (Q_RA1 h0_ h1_) (fun _ e_ => by cases e_) (by decide) hg_4, fun h0_ => spec_l16Own.col_grown (Q_RB1 h0_) (fun _ e_ => by cases e_) (by decide) hg_4, fun h0_ h1_ => spec_l16Own.col_grown (Q_RA2 h0_ h1_) (fun _ e_ => by cases e_) (by decide) hg_4, fun h0_ => spec_l16Own.col_grown (Q_RB2 h0_) (fun _ e_ => by cases e_) (by decide) hg_4, fun _ _ => hu_, fun h0_ => absurd ((hoff 15 (by kernel_rfl)).symm.trans h0_) (by decide), fun h0_ => absurd ((hoff 19 (by kernel_rfl)).symm.trans h0_) (by decide), fun h0_ => absurd ((hoff 18 (by kernel_rfl)).symm.trans h0_) (by decide)⟩
    refine steps_cons ?_ ?_
    · rintro b a w' ⟨col, m0, v0, m1, v1, m2, v2, m3, v3, m18_, ha, Q_HI, Q_RA0, Q_RB0, Q_RA1, Q_RB1, Q_RA2, Q_RB2, Q_RA3, Q_RB3, Q_FIN, Q_X18_⟩ hb_ hon hoff
      refine ⟨_, rfl, fun K hK => ?_⟩
      have e16 : a.tmps[16]? = some (.pointer (some ⟨gb1, 3, none⟩)) := by rw [ha]; exact (putSel_off rfl).trans rfl
      replace ha := Aside0.mk ha
      have HI := Aside0.mk (Q_HI (hoff 19 (by kernel_rfl)))
      have kx_ : w'.cell? ⟨gb1, 3, none⟩ = some (.slice A0_3 l0_3.length c0_3) := (blk_cell (blk_below BK1.out HI.out) 3).trans rfl
      refine value_ (w1 := w') (v := .slice A0_3 l0_3.length c0_3) (by rfl) rfl ?_ ?_
      · go_simp
        (try simp only [i64_w])
        try rfl
      refine hK.out _ _ ⟨col, m0, v0, m1, v1, m2, v2, m3, v3, m18_, (by rw [ha.out]; exact putSel_upk 10 hb_ rfl rfl rfl), Q_HI, Q_RA0, Q_RB0, Q_RA1, Q_RB1, Q_RA2, Q_RB2, Q_RA3, fun h0_ => absurd ((hoff 15 (by kernel_rfl)).symm.trans h0_) (by decide), fun h0_ => absurd ((hoff 19 (by kernel_rfl)).symm.trans h0_) (by decide), fun h0_ => absurd ((hoff 18 (by kernel_rfl)).symm.trans h0_) (by decide)⟩
    refine steps_cons ?_ ?_
    · rintro b a w' ⟨col, m0, v0, m1, v1, m2, v2, m3, v3, m18_, ha, Q_HI, Q_RA0, Q_RB0, Q_RA1, Q_RB1, Q_RA2, Q_RB2, Q_RA3, Q_RB3, Q_FIN, Q_X18_⟩ hb_ hon hoff
      refine ⟨_, rfl, fun K hK => ?_⟩
      have e15 : a.tmps[15]? = some (m3) := by rw [ha]; exact putSel_on (e := (12, 15, m3)) 9 rfl rfl (hon 12 (by kernel_rfl)) rfl
      have e17 : a.tmps[17]? = some (.slice A0_3 l0_3.length c0_3) := by rw [ha]; exact putSel_on (e := (14, 17, .slice A0_3 l0_3.length c0_3)) 10 rfl rfl (hon 14 (by kernel_rfl)) rfl
      replace ha := Aside0.mk ha
      have HI := Aside0.mk (Q_HI (hoff 19 (by kernel_rfl)))
      have RB0 := Aside0.mk (Q_RB0 (hon 3 (by kernel_rfl)))
      have RB1 := Aside0.mk (Q_RB1 (hon 7 (by kernel_rfl)))
      have RB2 := Aside0.mk (Q_RB2 (hon 11 (by kernel_rfl)))
      have RA3 := Aside0.mk (Q_RA3 (hon 12 (by kernel_rfl)) hb_)
      refine Kd.R_append_rows_step (k39) (w0 := w3) w3.heap.size (by rfl) (.tmp 15) (.tmp 17) 28 39 (.agg #[(.int .i64 0), (.int .i64 0)]) 16 rfl Try.underlying28 info39 rfl (by decide) (by omega) m3 ([] : List S39) l0_3 A0_3 l0_3.length c0_3 (fun k_ => (if w'.heap.size ≤ k_ then 3 else col k_) = 3) (fun _ => False) (eval_of e15) (eval_of e17) (spec_l16Own.col_own RA3.out) (Kd.C_below HR0_3.out (HBW.out.trans (HI.out.mono HBW.out.size))) (fun _ _ h_ => h_) (fun _ h_ => h_.elim) (fun k_ h_ => if_pos h_) HI.out HI.out.size (by have := HL.out; simp only [List.length_nil]; omega) ?_
      intro u_ w4 hu_ hb_4 hg_4 _
      rw [List.nil_append] at hu_
      refine hK.out _ _ ⟨(fun k_ => if w'.heap.size ≤ k_ then 3 else col k_), m0, v0, m1, v1, m2, v2, m3, u_, m18_, (by rw [ha.out]; exact putSel_upk 11 hb_ rfl rfl rfl), fun _ => hb_4, fun _ h1_ => absurd ((hon 3 (by kernel_rfl)).symm.trans h1_) (by decide), fun _ => spec_l16Own.col_grown RB0.out (fun k_ e_ h_ => absurd ((show col k_ = 3 from RA3.out.1 k_ e_).symm.trans h_) (by decide)) (by decide) hg_4, fun _ h1_ => absurd ((hon 7 (by kernel_rfl)).symm.trans h1_) (by decide), fun _ => spec_l16Own.col_grown RB1.out (fun k_ e_ h_ => absurd ((show col k_ = 3 from RA3.out.1 k_ e_).symm.trans h_) (by decide)) (by decide) hg_4, fun _ h1_ => absurd ((hon 11 (by kernel_rfl)).symm.trans h1_) (by decide), fun _ => spec_l16Own.col_grown RB2.out (fun k_ e_ h_ => absurd ((show col k_ = 3 from RA3.out.1 k_ e_).symm.trans h_) (by decide)) (by decide) hg_4, fun _ h1_ => absurd ((up_self b 15).symm.trans h1_) (by decide), fun _ => hu_, fun h0_ => absurd ((hoff 19 (by kernel_rfl)).symm.trans h0_) (by decide), fun h0_ => absurd ((hoff 18 (by kernel_rfl)).symm.trans h0_) (by decide)⟩
    refine steps_cons ?_ ?_
    · rintro b a w' ⟨col, m0, v0, m1, v1, m2, v2, m3, v3, m18_, ha, Q_HI, Q_RA0, Q_RB0, Q_RA1, Q_RB1, Q_RA2, Q_RB2, Q_RA3, Q_RB3, Q_FIN, Q_X18_⟩ hb_ hon hoff
      refine ⟨_, rfl, fun K hK => ?_⟩
      have e19 : a.tmps[19]? = some (.pointer (some ⟨gb1, 4, none⟩)) := by rw [ha]; exact (putSel_off rfl).trans rfl
      replace ha := Aside0.mk ha
      have HI := Aside0.mk (Q_HI (hoff 19 (by kernel_rfl)))
      have kx_ : w'.cell? ⟨gb1, 4, none⟩ = some (.int .i64 a0_4) := (blk_cell (blk_below BK1.out HI.out) 4).trans rfl
      refine value_ (w1 := w') (v := .int .i64 a0_4) (by rfl) rfl ?_ ?_
      · go_simp
        (try simp only [i64_w])
        try rfl
      refine hK.out _ _ ⟨col, m0, v0, m1, v1, m2, v2, m3, v3, m18_, (by rw [ha.out]; exact putSel_upk 12 hb_ rfl rfl rfl), Q_HI, Q_RA0, Q_RB0, Q_RA1, Q_RB1, Q_RA2, Q_RB2, Q_RA3, Q_RB3, fun h0_ => absurd ((hoff 19 (by kernel_rfl)).symm.trans h0_) (by decide), fun h0_ => absurd ((hoff 18 (by kernel_rfl)).symm.trans h0_) (by decide)⟩
    refine steps_cons ?_ ?_
    · rintro b a w' ⟨col, m0, v0, m1, v1, m2, v2, m3, v3, m18_, ha, Q_HI, Q_RA0, Q_RB0, Q_RA1, Q_RB1, Q_RA2, Q_RB2, Q_RA3, Q_RB3, Q_FIN, Q_X18_⟩ hb_ hon hoff
      refine ⟨_, rfl, fun K hK => ?_⟩
      have e6 : a.tmps[6]? = some (v0) := by rw [ha]; exact putSel_on (e := (3, 6, v0)) 2 rfl rfl (hon 3 (by kernel_rfl)) rfl
      have e10 : a.tmps[10]? = some (v1) := by rw [ha]; exact putSel_on (e := (7, 10, v1)) 5 rfl rfl (hon 7 (by kernel_rfl)) rfl
      have e14 : a.tmps[14]? = some (v2) := by rw [ha]; exact putSel_on (e := (11, 14, v2)) 8 rfl rfl (hon 11 (by kernel_rfl)) rfl
      have e18 : a.tmps[18]? = some (v3) := by rw [ha]; exact putSel_on (e := (15, 18, v3)) 11 rfl rfl (hon 15 (by kernel_rfl)) rfl
      have e20 : a.tmps[20]? = some (.int .i64 a0_4) := by rw [ha]; exact putSel_on (e := (17, 20, .int .i64 a0_4)) 12 rfl rfl (hon 17 (by kernel_rfl)) rfl
      replace ha := Aside0.mk ha
      have HI := Aside0.mk (Q_HI (hoff 19 (by kernel_rfl)))
      have RB0 := Aside0.mk (Q_RB0 (hon 3 (by kernel_rfl)))
      have RB1 := Aside0.mk (Q_RB1 (hon 7 (by kernel_rfl)))
      have RB2 := Aside0.mk (Q_RB2 (hon 11 (by kernel_rfl)))
      have RB3 := Aside0.mk (Q_RB3 (hon 15 (by kernel_rfl)))
      obtain ⟨q0_, z0_, eo_⟩ := Kd.R_slice RB0.out; subst eo_
      obtain ⟨q1_, z1_, eo_⟩ := Kd.R_slice RB1.out; subst eo_
      obtain ⟨q2_, z2_, eo_⟩ := Kd.R_slice RB2.out; subst eo_
      obtain ⟨q3_, z3_, eo_⟩ := Kd.R_slice RB3.out; subst eo_
      refine value_ (w1 := w') (v := .agg #[.slice q0_ l0_0.length z0_, .slice q1_ l0_1.length z1_, .slice q2_ l0_2.length z2_, .slice q3_ l0_3.length z3_, .int .i64 a0_4]) (by rfl) rfl ?_ ?_
      · go_simp
        (try simp only [i64_w])
        try rfl
      refine hK.out _ _ ⟨col, m0, .slice q0_ l0_0.length z0_, m1, .slice q1_ l0_1.length z1_, m2, .slice q2_ l0_2.length z2_, m3, .slice q3_ l0_3.length z3_, (.agg #[.slice q0_ l0_0.length z0_, .slice q1_ l0_1.length z1_, .slice q2_ l0_2.length z2_, .slice q3_ l0_3.length z3_, .int .i64 a0_4]), (by rw [ha.out]; exact putSel_upk 13 hb_ rfl rfl rfl), Q_HI, fun _ h1_ => absurd ((hon 3 (by kernel_rfl)).symm.trans h1_) (by decide), Q_RB0, fun _ h1_ => absurd ((hon 7 (by kernel_rfl)).symm.trans h1_) (by decide), Q_RB1, fun _ h1_ => absurd ((hon 11 (by kernel_rfl)).symm.trans h1_) (by decide), Q_RB2, fun _ h1_ => absurd ((hon 15 (by kernel_rfl)).symm.trans h1_) (by decide), Q_RB3, fun h0_ => absurd ((hoff 19 (by kernel_rfl)).symm.trans h0_) (by decide), fun _ => rfl⟩
    refine steps_cons ?_ ?_
    · rintro b a w' ⟨col, m0, v0, m1, v1, m2, v2, m3, v3, m18_, ha, Q_HI, Q_RA0, Q_RB0, Q_RA1, Q_RB1, Q_RA2, Q_RB2, Q_RA3, Q_RB3, Q_FIN, Q_X18_⟩ hb_ hon hoff
      refine ⟨_, rfl, fun K hK => ?_⟩
      have e2 : a.tmps[2]? = some (.pointer (some ⟨gb2, 0, none⟩)) := by rw [ha]; exact (putSel_off rfl).trans rfl
      have e21 : a.tmps[21]? = some (m18_) := by rw [ha]; exact putSel_on (e := (18, 21, m18_)) 13 rfl rfl (hon 18 (by kernel_rfl)) rfl
      rw [Q_X18_ (hon 18 (by kernel_rfl))] at e21
      replace ha := Aside0.mk ha
      have HI := Aside0.mk (Q_HI hb_)
      have RB0 := Aside0.mk (Q_RB0 (hon 3 (by kernel_rfl)))
      have RB1 := Aside0.mk (Q_RB1 (hon 7 (by kernel_rfl)))
      have RB2 := Aside0.mk (Q_RB2 (hon 11 (by kernel_rfl)))
      have RB3 := Aside0.mk (Q_RB3 (hon 15 (by kernel_rfl)))
      obtain ⟨q0_, z0_, eo_⟩ := Kd.R_slice RB0.out; subst eo_
      obtain ⟨q1_, z1_, eo_⟩ := Kd.R_slice RB1.out; subst eo_
      obtain ⟨q2_, z2_, eo_⟩ := Kd.R_slice RB2.out; subst eo_
      obtain ⟨q3_, z3_, eo_⟩ := Kd.R_slice RB3.out; subst eo_
      have hz0_ : w'.cell? ⟨gb2, 0, none⟩ = some (.slice none 0 0) := (blk_cell (blk_below BK2.out HI.out) 0).trans rfl
      have hz1_ : w'.cell? ⟨gb2, 1, none⟩ = some (.slice none 0 0) := (blk_cell (blk_below BK2.out HI.out) 1).trans rfl
      have hz2_ : w'.cell? ⟨gb2, 2, none⟩ = some (.slice none 0 0) := (blk_cell (blk_below BK2.out HI.out) 2).trans rfl
      have hz3_ : w'.cell? ⟨gb2, 3, none⟩ = some (.slice none 0 0) := (blk_cell (blk_below BK2.out HI.out) 3).trans rfl
      have hz4_ : w'.cell? ⟨gb2, 4, none⟩ = some (.int .i64 0) := (blk_cell (blk_below BK2.out HI.out) 4).trans rfl
      have hf0_ := blk_frozen (blk_below BK2.out HI.out) 0
      have hf1_ := blk_frozen (blk_below BK2.out HI.out) 1
      have hf2_ := blk_frozen (blk_below BK2.out HI.out) 2
      have hf3_ := blk_frozen (blk_below BK2.out HI.out) 3
      have hf4_ := blk_frozen (blk_below BK2.out HI.out) 4
      refine skip_ (w1 := (((((w'.setCell ⟨gb2, 0, none⟩ (.slice q0_ l0_0.length z0_)).setCell ⟨gb2, 1, none⟩ (.slice q1_ l0_1.length z1_)).setCell ⟨gb2, 2, none⟩ (.slice q2_ l0_2.length z2_)).setCell ⟨gb2, 3, none⟩ (.slice q3_ l0_3.length z3_)).setCell ⟨gb2, 4, none⟩ (.int .i64 a0_4))) (by rfl) rfl ?_ ?_
      · go_simp
        try rfl
      refine hK.out _ _ ⟨col, m0, .slice q0_ l0_0.length z0_, m1, .slice q1_ l0_1.length z1_, m2, .slice q2_ l0_2.length z2_, m3, .slice q3_ l0_3.length z3_, m18_, (by rw [ha.out]; exact putSel_none (v := undef) rfl), fun h0_ => absurd ((up_self b 19).symm.trans h0_) (by decide), fun _ h1_ => absurd ((hon 3 (by kernel_rfl)).symm.trans h1_) (by decide), fun _ => spec_l16Own.far_base (spec_l16Own.far_base (spec_l16Own.far_base (spec_l16Own.far_base (spec_l16Own.far_base (RB0.out) BG2.out) BG2.out) BG2.out) BG2.out) BG2.out, fun _ h1_ => absurd ((hon 7 (by kernel_rfl)).symm.trans h1_) (by decide), fun _ => spec_l16Own.far_base (spec_l16Own.far_base (spec_l16Own.far_base (spec_l16Own.far_base (spec_l16Own.far_base (RB1.out) BG2.out) BG2.out) BG2.out) BG2.out) BG2.out, fun _ h1_ => absurd ((hon 11 (by kernel_rfl)).symm.trans h1_) (by decide), fun _ => spec_l16Own.far_base (spec_l16Own.far_base (spec_l16Own.far_base (spec_l16Own.far_base (spec_l16Own.far_base (RB2.out) BG2.out) BG2.out) BG2.out) BG2.out) BG2.out, fun _ h1_ => absurd ((hon 15 (by kernel_rfl)).symm.trans h1_) (by decide), fun _ => spec_l16Own.far_base (spec_l16Own.far_base (spec_l16Own.far_base (spec_l16Own.far_base (spec_l16Own.far_base (RB3.out) BG2.out) BG2.out) BG2.out) BG2.out) BG2.out, fun _ => ⟨(below_set (below_set (below_set (below_set (below_set (HBW.out.trans (HI.out.mono HBW.out.size)) GE2.out) GE2.out) GE2.out) GE2.out) GE2.out), (blk_set (blk_set (blk_set (blk_set (blk_set (blk_below BK2.out HI.out) 0 (.slice q0_ l0_0.length z0_)) 1 (.slice q1_ l0_1.length z1_)) 2 (.slice q2_ l0_2.length z2_)) 3 (.slice q3_ l0_3.length z3_)) 4 (.int .i64 a0_4)).trans rfl⟩, Q_X18_⟩
    exact steps_nil
  rintro b a w' hall ⟨col, m0, v0, m1, v1, m2, v2, m3, v3, m18_, ha, Q_HI, Q_RA0, Q_RB0, Q_RA1, Q_RB1, Q_RA2, Q_RB2, Q_RA3, Q_RB3, Q_FIN, Q_X18_⟩
  clear HI
  have hb0_ := hall 0 (by kernel_rfl)
  have hb2_ := hall 2 (by kernel_rfl)
  have hb3_ := hall 3 (by kernel_rfl)
  have hb4_ := hall 4 (by kernel_rfl)
  have hb6_ := hall 6 (by kernel_rfl)
  have hb7_ := hall 7 (by kernel_rfl)
  have hb8_ := hall 8 (by kernel_rfl)
  have hb10_ := hall 10 (by kernel_rfl)
  have hb11_ := hall 11 (by kernel_rfl)
  have hb12_ := hall 12 (by kernel_rfl)
  have hb14_ := hall 14 (by kernel_rfl)
  have hb15_ := hall 15 (by kernel_rfl)
  have hb17_ := hall 17 (by kernel_rfl)
  have hb18_ := hall 18 (by kernel_rfl)
  have hb19_ := hall 19 (by kernel_rfl)
  subst ha
  obtain rfl := Q_X18_ hb18_
  simp only [putSel, hb0_, hb2_, hb3_, hb4_, hb6_, hb7_, hb8_, hb10_, hb11_, hb12_, hb14_, hb15_, hb17_, hb18_, hb19_, if_true, Act.put, List.setIfInBounds_toArray, List.set_cons_zero, List.set_cons_succ]
  clear Q_HI
  clear Q_RA0
  have RB0 := Aside0.mk (Q_RB0 hb3_)
  clear Q_RB0
  clear Q_RA1
  have RB1 := Aside0.mk (Q_RB1 hb7_)
  clear Q_RB1
  clear Q_RA2
  have RB2 := Aside0.mk (Q_RB2 hb11_)
  clear Q_RB2
  clear Q_RA3
  have RB3 := Aside0.mk (Q_RB3 hb15_)
  clear Q_RB3
  have FIN := Aside0.mk (Q_FIN hb19_)
  clear Q_FIN
  clear hall hb0_ hb2_ hb3_ hb4_ hb6_ hb7_ hb8_ hb10_ hb11_ hb12_ hb14_ hb15_ hb17_ hb18_ hb19_
  try go_wp2
  obtain ⟨hBW2, hBK2⟩ := FIN.out
  refine bodyPost_ret (results_cell_row rfl _ _ gb2 55 #[v0, v1, v2, v3, .int .i64 a0_4] (0, 0) _ rfl hBK2 Try.underlying55 rfl (by kernel_rfl)) rfl ?_
  exact ⟨v0, v1, v2, v3, rfl, Kd.R_mono (Kd.R_lower RB0.out HBW.out.size) (fun k_ hk_ e_ => absurd ((show col k_ = 1 from RB1.out.1 k_ e_.symm).symm.trans hk_) (by decide)), Kd.R_mono (Kd.R_lower RB1.out HBW.out.size) (fun k_ hk_ e_ => absurd ((show col k_ = 0 from RB0.out.1 k_ e_.symm).symm.trans hk_) (by decide)), Kd.R_mono (Kd.R_lower RB2.out HBW.out.size) (fun k_ hk_ e_ => absurd ((show col k_ = 3 from RB3.out.1 k_ e_.symm).symm.trans hk_) (by decide)), Kd.R_mono (Kd.R_lower RB3.out HBW.out.size) (fun k_ hk_ e_ => absurd ((show col k_ = 2 from RB2.out.1 k_ e_.symm).symm.trans hk_) (by decide)), hBW2⟩

end Go.Proofs.Ytccnpnlmihcmlaa.GLNewJob
