-- Written by a program of this session (gprint.py), over the kit's print: not trusted: Lean checks it.
import Derived.Test.YtdbepjnapjjlcaaGLCutOf0
import Derived.Test.YtdbepjnapjjlcaaGLCutOf2
namespace Go.Proofs.Ytdbepjnapjjlcaa.GLCutOf
open Go.RowKit Go.Proofs.YtdbepjnapjjlcaaW.PrintWords Go.Proofs.YtdbepjnapjjlcaaW.PrintLast Go.Proofs.YtdbepjnapjjlcaaW.PrintMore Go.Proofs.YtdbepjnapjjlcaaW.PrintOwn
attribute [local go_sem] max2_int min2_int max_two min_two max_three min_three max_four min_four   -- for this text's walks alone
set_option linter.unusedVariables false
set_option linter.unusedSimpArgs false

/-! ### spec_l13Come: function 55 -/
mutual
def spec_l13Come.l0 : Nat → List (List Int) → List (List Int) → List Int → Int → Int → Option (List Int)
  | 0, _, _, _, _, _ => none
  | k + 1, x0, x1, x5, x14, x15 => if x15 < x14 then (if 0 ≤ x15 then (if x15 < (x5.length : Int) then (spec_l13Come.l0 k x0 x1 (x5.set (x15 : Int).toNat (-2)) x14 (wrap64 (x15 + 1))) else (none)) else (none)) else (if 0 < (x5.length : Int) then (spec_l13Come.l1 k x0 x1 (x5.set (0 : Int).toNat (-1)) (([0] : List Int))) else (none))
def spec_l13Come.l1 : Nat → List (List Int) → List (List Int) → List Int → List Int → Option (List Int)
  | 0, _, _, _, _ => none
  | k + 1, x0, x1, x5, x7 => if (x7.length : Int) > 0 then (if 0 < (x7.length : Int) then (if 1 ≤ (x7.length : Int) then (spec_l13Come.l2 k x0 x1 x5 (x7.drop (1 : Int).toNat) (rd x7 0) (x0.length : Int) 0) else (none)) else (none)) else (some x5)
def spec_l13Come.l2 : Nat → List (List Int) → List (List Int) → List Int → List Int → Int → Int → Int → Option (List Int)
  | 0, _, _, _, _, _, _, _ => none
  | k + 1, x0, x1, x5, x7, x8, x34, x35 => if x35 < x34 then (if 0 ≤ x35 then (if x35 < (x5.length : Int) then (if (rd x5 x35) = (-2) then ((spec_l13Room.f x0 x1 x8 x35).bind fun t150 => (if t150 > 0 then (if x7.length < 17592186044416 then (spec_l13Come.l2 k x0 x1 (x5.set (x35 : Int).toNat x8) (x7 ++ [x35]) x8 x34 (wrap64 (x35 + 1))) else (none)) else (spec_l13Come.l2 k x0 x1 x5 x7 x8 x34 (wrap64 (x35 + 1))))) else (spec_l13Come.l2 k x0 x1 x5 x7 x8 x34 (wrap64 (x35 + 1)))) else (none)) else (none)) else (spec_l13Come.l1 k x0 x1 x5 x7)
end
def spec_l13Come.f (k : Nat) (l0 : List (List Int)) (l1 : List (List Int)) : Option (List Int) := if 0 ≤ (l0.length : Int) then (if ((l0.length : Int) : Int).toNat ≤ 35184372088832 then ((some (List.replicate ((l0.length : Int) : Int).toNat 0 : List Int)).bind fun y137 => (spec_l13Come.l0 k l0 l1 y137 (y137.length : Int) 0)) else (none)) else (none)
theorem spec_l13Come.mono_l : ∀ k, (∀ y0 y1 y2 y3 y4, LeO (spec_l13Come.l0 k y0 y1 y2 y3 y4) (spec_l13Come.l0 (k + 1) y0 y1 y2 y3 y4)) ∧ (∀ y0 y1 y2 y3, LeO (spec_l13Come.l1 k y0 y1 y2 y3) (spec_l13Come.l1 (k + 1) y0 y1 y2 y3)) ∧ (∀ y0 y1 y2 y3 y4 y5 y6, LeO (spec_l13Come.l2 k y0 y1 y2 y3 y4 y5 y6) (spec_l13Come.l2 (k + 1) y0 y1 y2 y3 y4 y5 y6))
  | 0 => ⟨fun _ _ _ _ _ r h => by simp [spec_l13Come.l0] at h, fun _ _ _ _ r h => by simp [spec_l13Come.l1] at h, fun _ _ _ _ _ _ _ r h => by simp [spec_l13Come.l2] at h⟩
  | k + 1 => by
    obtain ⟨ih0, ih1, ih2⟩ := spec_l13Come.mono_l k
    refine ⟨?_, ?_, ?_⟩
    · intro y0 y1 y2 y3 y4
      unfold spec_l13Come.l0
      repeat' first
      | (with_reducible exact ih0 _ _ _ _ _)
      | (with_reducible exact ih1 _ _ _ _)
      | (with_reducible exact ih2 _ _ _ _ _ _ _)
      | (with_reducible exact LeO.refl _)
      | (with_reducible exact LeO.none _)
      | (with_reducible refine LeO.ite ?_ ?_)
      | (with_reducible refine LeO.bind ?_ (fun _ => ?_))
      | exact ih0 _ _ _ _ _
      | exact ih1 _ _ _ _
      | exact ih2 _ _ _ _ _ _ _
      | exact LeO.none _
      | refine LeO.ite ?_ ?_
      | refine LeO.bind ?_ (fun _ => ?_)
    · intro y0 y1 y2 y3
      unfold spec_l13Come.l1
      repeat' first
      | (with_reducible exact ih0 _ _ _ _ _)
      | (with_reducible exact ih1 _ _ _ _)
      | (with_reducible exact ih2 _ _ _ _ _ _ _)
      | (with_reducible exact LeO.refl _)
      | (with_reducible exact LeO.none _)
      | (with_reducible refine LeO.ite ?_ ?_)
      | (with_reducible refine LeO.bind ?_ (fun _ => ?_))
      | exact ih0 _ _ _ _ _
      | exact ih1 _ _ _ _
      | exact ih2 _ _ _ _ _ _ _
      | exact LeO.none _
      | refine LeO.ite ?_ ?_
      | refine LeO.bind ?_ (fun _ => ?_)
    · intro y0 y1 y2 y3 y4 y5 y6
      unfold spec_l13Come.l2
      repeat' first
      | (with_reducible exact ih0 _ _ _ _ _)
      | (with_reducible exact ih1 _ _ _ _)
      | (with_reducible exact ih2 _ _ _ _ _ _ _)
      | (with_reducible exact LeO.refl _)
      | (with_reducible exact LeO.none _)
      | (with_reducible refine LeO.ite ?_ ?_)
      | (with_reducible refine LeO.bind ?_ (fun _ => ?_))
      | exact ih0 _ _ _ _ _
      | exact ih1 _ _ _ _
      | exact ih2 _ _ _ _ _ _ _
      | exact LeO.none _
      | refine LeO.ite ?_ ?_
      | refine LeO.bind ?_ (fun _ => ?_)
theorem spec_l13Come.mono : ∀ a0 a1 k, LeO (spec_l13Come.f k a0 a1) (spec_l13Come.f (k + 1) a0 a1) := by
  intro a0 a1 k
  obtain ⟨ih0, ih1, ih2⟩ := spec_l13Come.mono_l k
  unfold spec_l13Come.f
  repeat' first
      | (with_reducible exact ih0 _ _ _ _ _)
      | (with_reducible exact ih1 _ _ _ _)
      | (with_reducible exact ih2 _ _ _ _ _ _ _)
      | (with_reducible exact LeO.refl _)
      | (with_reducible exact LeO.none _)
      | (with_reducible refine LeO.ite ?_ ?_)
      | (with_reducible refine LeO.bind ?_ (fun _ => ?_))
      | exact ih0 _ _ _ _ _
      | exact ih1 _ _ _ _
      | exact ih2 _ _ _ _ _ _ _
      | exact LeO.none _
      | refine LeO.ite ?_ ?_
      | refine LeO.bind ?_ (fun _ => ?_)
set_option maxHeartbeats 8000000 in
set_option maxRecDepth 100000 in
theorem spec_l13Come.calls (k : Nat) (A0 : Option Addr) (c0 : Nat) (l0 : List (List Int)) (A1 : Option Addr) (c1 : Nat) (l1 : List (List Int)) (r : List Int) (w : World) (hr0 : Kd.C (Kd.slice 3 (Kd.int .i64)) w A0 l0.length l0) (hc0 : l0.length ≤ c0) (hr1 : Kd.C (Kd.slice 3 (Kd.int .i64)) w A1 l1.length l1) (hc1 : l1.length ≤ c1) (h : spec_l13Come.f k l0 l1 = some r) :
    Calls Try.prog 55 #[.slice A0 l0.length c0, .slice A1 l1.length c1] w fun e w' => ∃ v0_ : Value, e = .returned (v0_) ∧ Kd.R (Kd.int .i64) 3 w' w.heap.size (fun _ => True) v0_ r ∧ Below w.heap.size w w' := by
  have HR0 := Aside0.mk hr0
  have HC0 := Aside0.mk hc0
  clear hr0 hc0
  have HR1 := Aside0.mk hr1
  have HC1 := Aside0.mk hc1
  clear hr1 hc1
  have HB := Aside0.mk (Below.refl w.heap.size w)
  have H : (if 0 ≤ (l0.length : Int) then (if ((l0.length : Int) : Int).toNat ≤ 35184372088832 then ((some (List.replicate ((l0.length : Int) : Int).toNat 0 : List Int)).bind fun y137 => (spec_l13Come.l0 k l0 l1 y137 (y137.length : Int) 0)) else (none)) else (none)) = some r := h
  clear h
  by_cases c3 : 0 ≤ (l0.length : Int)
  · rw [if_pos c3] at H
    have c3b0 := eq_true c3
    have c3b1 : decide (0 ≤ (l0.length : Int)) = true := decide_eq_true c3
    clear c3
    by_cases c4 : ((l0.length : Int) : Int).toNat ≤ 35184372088832
    · rw [if_pos c4] at H
      have c4b0 := eq_true c4
      have c4b1 : decide (((l0.length : Int) : Int).toNat ≤ 35184372088832) = true := decide_eq_true c4
      clear c4
      obtain ⟨y137, hy137⟩ : ∃ y_ : List Int, y_ = (List.replicate ((l0.length : Int) : Int).toNat 0) := ⟨_, rfl⟩
      replace H : (spec_l13Come.l0 k l0 l1 y137 (y137.length : Int) 0) = some r := by first | (rw [hy137]; with_reducible exact H) | (have H2_ := (Option.bind_some _ _).symm.trans H; rw [hy137]; with_reducible exact H2_) | (have H2_ := (Option.bind_some _ _).symm.trans H; with_reducible exact H2_) | with_reducible exact H | (rw [hy137]; exact H) | exact H
      have Ny137 := Aside0.mk hy137
      clear hy137
      have H' := Aside0.mk H
      clear H
      go_enter Try.func55, Try.ntmps55
      go_wp2_with (first | ((with_reducible refine gate_dst (N := 12) rfl ?_); refine Kd.R_make (Kd.int .i64) _ 3 rfl (N := 12) rfl 31 _ _ rfl (l0.length : Int) rfl rfl Try.underlying31 (.int .i64 0) 8 info3 rfl (by decide) (by omega) 0 (ok := fun _ => True) (okp := fun _ => True) rfl (fun _ hk => hk) trivial (of_decide_eq_true (by first | (with_reducible assumption) | assumption)) (Nat.le_trans (Nat.mul_le_mul_right _ (of_decide_eq_true (by first | (with_reducible assumption) | assumption) : (l0.length : Int).toNat ≤ 35184372088832)) (by omega)) (Below.refl _ _) (Nat.le_refl _) ?_; intro v138 w5 ho6 hb hg_ hnew_; clear hg_ hnew_; (first | rw [← Ny137.out] at ho6 | (simp only [Int.reduceToNat] at ho6; rw [← Ny137.out] at ho6)); have n0_ := Aside0.mk (Kd.R_lower ho6 (below_size (by repeat (first | (with_reducible first | exact HB.out | apply below_alloc | apply pw_below_drewN | apply below_drew1) | exact HB.out)))); have n1_ := Aside0.mk (below_step (by repeat (first | (with_reducible first | exact HB.out | apply below_alloc | apply pw_below_drewN | apply below_drew1) | exact HB.out)) hb); clear HB; have HO139 := n0_; have HB := n1_; clear n0_ n1_; clear hb ho6; obtain ⟨Ao7, co7, eo7⟩ := Kd.R_slice HO139.out; subst eo7))
      go_loopg [15] k (fun kq v15 w' => ∃ (x5_1 : List Int) (x15_1 : Int), v15 = .int .i64 x15_1 ∧ Aside0 (spec_l13Come.l0 kq l0 l1 x5_1 (y137.length : Int) x15_1 = some r) ∧ Aside0 (kq ≤ k) ∧ Aside0 (Kd.R (Kd.int .i64) 3 w' w.heap.size (fun _ => True) (.slice Ao7 y137.length co7) x5_1) ∧ Aside0 (Below w.heap.size w w'))
      case atStart => exact ⟨(y137), (0), (by first | rfl | (simp; done) | (simp [*]; done)), H', ⟨Nat.le_refl _⟩, ⟨by (with_reducible repeat (first | apply Kd.R_alloc | apply Kd.R_drewN | apply Kd.R_drew)); exact HO139.out⟩, ⟨by repeat (first | (with_reducible first | exact HB.out | apply below_alloc | apply pw_below_drewN | apply below_drew1) | exact HB.out)⟩⟩
      case round =>
        clear H'
        try clear c1
        try clear p2
        try clear c3
        try clear c3b0
        try clear c3b1
        try clear c4
        try clear c4b0
        try clear c4b1
        try clear c5
        obtain ⟨x5_1, x15_1, rfl, HA, HK1, HO_5, HB⟩ := hrel
        have hl5_1 := (Kd.R_reads' HO_5.out).1
        rw [hl5_1] at HO_5
        (try simp only [hl5_1])
        cases gk with
        | zero => exact absurd HA.out (by simp [spec_l13Come.l0])
        | succ k1 =>
          have H := HA.out
          clear HA
          simp only [spec_l13Come.l0] at H
          by_cases c8 : x15_1 < (y137.length : Int)
          · rw [if_pos c8] at H
            have c8b0 : decide (x15_1 < (y137.length : Int)) = true := decide_eq_true c8
            have c8b0z := c8b0
            (try simp only [hl5_1] at c8b0z)
            (try simp only [hl5_2] at c8b0z)
            (try simp only [hl5_3] at c8b0z)
            clear c8
            by_cases c9 : 0 ≤ x15_1
            · rw [if_pos c9] at H
              have c9b0 : decide (0 ≤ x15_1) = true := decide_eq_true c9
              clear c9
              by_cases c10 : x15_1 < (x5_1.length : Int)
              · rw [if_pos c10] at H
                have c10b0 : decide (x15_1 < (x5_1.length : Int)) = true := decide_eq_true c10
                clear c10
                obtain ⟨y140, hy140⟩ : ∃ y_ : List Int, y_ = (x5_1.set (x15_1 : Int).toNat (-2)) := ⟨_, rfl⟩
                replace H : (spec_l13Come.l0 k1 l0 l1 y140 (y137.length : Int) (wrap64 (x15_1 + 1))) = some r := by first | (rw [hy140]; with_reducible exact H) | (have H2_ := (Option.bind_some _ _).symm.trans H; rw [hy140]; with_reducible exact H2_) | (have H2_ := (Option.bind_some _ _).symm.trans H; with_reducible exact H2_) | with_reducible exact H | (rw [hy140]; exact H) | exact H
                have Ny140 := Aside0.mk hy140
                clear hy140
                have H' := Aside0.mk H
                clear H
                have p11 : 0 ≤ (x15_1 : Int) := of_decide_eq_true (by first | (with_reducible assumption) | assumption)
                have q11 : (x15_1 : Int) < ((x5_1.length : Int) : Int) := of_decide_eq_true (by first | (with_reducible assumption) | assumption)
                obtain ⟨go11, co11, eo11, gb11, gl11, cl11, HG11⟩ := Kd.R_form HO_5.out (by omega)
                (first | cases eo11 | (injection eo11 with ea_ en_ ec_; (first | subst ea_ | (injection ea_ with ea_; subst ea_)); subst ec_; clear en_))
                have GB11 := Aside0.mk gb11
                have GG11 := Aside0.mk HG11
                clear gb11 gl11 HG11
                obtain ⟨hx11_0, hf11_0⟩ := Kd.R_celln 0 HO_5.out (x15_1 : Int) p11 q11
                replace p11 := eq_true p11
                replace q11 := eq_true q11
                have HP12 := Kd.R_putg HO_5.out (x15_1 : Int) (-2)
                go_wp2_with (first | ((with_reducible refine gate_store (t := 3) (p := 20) rfl ?_); refine store_event (t := 3) (p := 20) (v := ?vo_w13) (w1 := (wr.setCell ⟨go11, (x15_1 : Int).toNat, none⟩ (.int .i64 (-2)))) ?hg ?ho ?hn ?hr ?_; (case ho => rfl); (case hg => rfl); (case hn => rfl); (case hr => first | (go_simp; done) | (go_simp; rfl)); intro w13 hw; have hg : wr.grownBy w13 (some go11) := (by rw [hw]; exact HP12.2); have hp_ : Kd.R (Kd.int .i64) 3 w13 w.heap.size (fun _ => True) (.slice (some ⟨go11, 0, none⟩) x5_1.length co7) y140 := (by rw [hw, Ny140.out]; exact HP12.1); clear HP12; have n0_ := Aside0.mk (hp_); have n1_ := Aside0.mk ((by rw [hw]; exact below_set (HB.out) GB11.out : Below w.heap.size w w13)); clear HO_5; clear HB; have HO_5 := n0_; have HB := n1_; clear n0_ n1_; clear hg hw hp_))
                (try simp only [← hl5_1])
                go_roundg k1
                case measure => have := HK1.out; omega
                case rel => exact ⟨(y140), (wrap64 (x15_1 + 1)), (by first | rfl | (simp; done) | (simp [*]; done)), H', ⟨by have := HK1.out; omega⟩, ⟨by (try simp only [hl5_1]); (with_reducible repeat (first | apply Kd.R_alloc | apply Kd.R_drewN | apply Kd.R_drew)); exact HO_5.out⟩, ⟨by repeat (first | (with_reducible first | exact HB.out | apply below_alloc | apply pw_below_drewN | apply below_drew1) | exact HB.out)⟩⟩
              · rw [if_neg c10] at H
                exact absurd H (by simp)
            · rw [if_neg c9] at H
              exact absurd H (by simp)
          · rw [if_neg c8] at H
            have c8b0 : decide (x15_1 < (y137.length : Int)) = false := decide_eq_false c8
            have c8b0z := c8b0
            (try simp only [hl5_1] at c8b0z)
            (try simp only [hl5_2] at c8b0z)
            (try simp only [hl5_3] at c8b0z)
            clear c8
            by_cases c14 : 0 < (x5_1.length : Int)
            · rw [if_pos c14] at H
              have c14b0 : decide (0 < (x5_1.length : Int)) = true := decide_eq_true c14
              have c14b1 : decide (0 < x5_1.length) = true := decide_eq_true (by omega)
              clear c14
              obtain ⟨y141, hy141⟩ : ∃ y_ : List Int, y_ = (x5_1.set (0 : Int).toNat (-1)) := ⟨_, rfl⟩
              replace H : (spec_l13Come.l1 k1 l0 l1 y141 (([0] : List Int))) = some r := by first | (rw [hy141]; with_reducible exact H) | (have H2_ := (Option.bind_some _ _).symm.trans H; rw [hy141]; with_reducible exact H2_) | (have H2_ := (Option.bind_some _ _).symm.trans H; with_reducible exact H2_) | with_reducible exact H | (rw [hy141]; exact H) | exact H
              have Ny141 := Aside0.mk hy141
              clear hy141
              obtain ⟨y142, hy142⟩ : ∃ y_ : List Int, y_ = (([0] : List Int)) := ⟨_, rfl⟩
              replace H : (spec_l13Come.l1 k1 l0 l1 y141 y142) = some r := by first | (rw [hy142]; with_reducible exact H) | (have H2_ := (Option.bind_some _ _).symm.trans H; rw [hy142]; with_reducible exact H2_) | (have H2_ := (Option.bind_some _ _).symm.trans H; with_reducible exact H2_) | with_reducible exact H | (rw [hy142]; exact H) | exact H
              have Ny142 := Aside0.mk hy142
              clear hy142
              have H' := Aside0.mk H
              clear H
              have p15 : 0 ≤ (0 : Int) := (by omega)
              have q15 : (0 : Int) < ((x5_1.length : Int) : Int) := of_decide_eq_true (by first | (with_reducible assumption) | assumption)
              have qi15 : (0 < x5_1.length) = True := eq_true (by omega)
              obtain ⟨go15, co15, eo15, gb15, gl15, cl15, HG15⟩ := Kd.R_form HO_5.out (by omega)
              (first | cases eo15 | (injection eo15 with ea_ en_ ec_; (first | subst ea_ | (injection ea_ with ea_; subst ea_)); subst ec_; clear en_))
              have GB15 := Aside0.mk gb15
              have GG15 := Aside0.mk HG15
              clear gb15 gl15 HG15
              obtain ⟨hx15_0, hf15_0⟩ := Kd.R_celln 0 HO_5.out (0 : Int) p15 q15
              (try rw [show ((0 : Int)).toNat = 0 from rfl] at hx15_0)
              (try simp only [Nat.reduceMul, Nat.zero_mul, Nat.zero_add, Nat.reduceAdd] at hx15_0)
              (try rw [show ((0 : Int)).toNat = 0 from rfl] at hf15_0)
              (try simp only [Nat.reduceMul, Nat.zero_mul, Nat.zero_add, Nat.reduceAdd] at hf15_0)
              replace p15 := eq_true p15
              replace q15 := eq_true q15
              have HP16 := Kd.R_putg HO_5.out (0 : Int) (-1)
              go_wp2_with (first | ((with_reducible refine gate_store (t := 3) (p := 23) rfl ?_); refine store_event (t := 3) (p := 23) (v := ?vo_w17) (w1 := (wr.setCell ⟨go15, (0 : Int).toNat, none⟩ (.int .i64 (-1)))) ?hg ?ho ?hn ?hr ?_; (case ho => rfl); (case hg => rfl); (case hn => rfl); (case hr => first | (go_simp; done) | (go_simp; rfl)); intro w17 hw; have hg : wr.grownBy w17 (some go15) := (by rw [hw]; exact HP16.2); have hp_ : Kd.R (Kd.int .i64) 3 w17 w.heap.size (fun _ => True) (.slice (some ⟨go15, 0, none⟩) x5_1.length co7) y141 := (by rw [hw, Ny141.out]; exact HP16.1); clear HP16; have n0_ := Aside0.mk (hp_); have n1_ := Aside0.mk ((by rw [hw]; exact below_set (HB.out) GB15.out : Below w.heap.size w w17)); clear HO_5; clear HB; have HO_5 := n0_; have HB := n1_; clear n0_ n1_; clear hg hw hp_) | ((with_reducible refine gate_dst (N := 24) rfl ?_); refine Kd.R_lit (Kd.int .i64) _ 3 ?hg (N := 24) ?hd (xs := ([0] : List Int)) (inner := [.int .i64 0]) (ok := fun _ => True) (okp := fun _ => True) ?hr ?hp (fun _ hk => hk) trivial (Below.refl _ _) (Nat.le_refl _) (by simp) ?_; (case hd => rfl); (case hg => rfl); (case hr => first | (go_simp; done) | (go_simp; rfl)); (case hp => exact (Reps.one (show Kd.M (Kd.int .i64) _ _ _ 0 [.int .i64 0] from rfl) (Reps.none _ _))); intro v143 w18 ho19 hb hg_ hnew_; clear hg_ hnew_; (first | rw [← Ny142.out] at ho19 | (simp only [Int.reduceToNat] at ho19; rw [← Ny142.out] at ho19)); have n0_ := Aside0.mk (Kd.R_elder' (by (with_reducible repeat (first | apply Kd.R_alloc | apply Kd.R_drewN | apply Kd.R_drew)); exact HO_5.out) (Kd.R_base ho19) hb); have n1_ := Aside0.mk (Kd.R_lower (Kd.R_new' ho19 (Kd.R_lt (by (with_reducible repeat (first | apply Kd.R_alloc | apply Kd.R_drewN | apply Kd.R_drew)); exact HO_5.out))) (below_size (by repeat (first | (with_reducible first | exact HB.out | apply below_alloc | apply pw_below_drewN | apply below_drew1) | exact HB.out)))); have n2_ := Aside0.mk (below_step (by repeat (first | (with_reducible first | exact HB.out | apply below_alloc | apply pw_below_drewN | apply below_drew1) | exact HB.out)) hb); clear HO_5; clear HB; have HO_5 := n0_; have HO144 := n1_; have HB := n2_; clear n0_ n1_ n2_; clear hb ho19))
              go_loopg [7] k1 (fun kq v7 w' => ∃ (x5_2 : List Int) (x7_2 : List Int), Aside0 (spec_l13Come.l1 kq l0 l1 x5_2 x7_2 = some r) ∧ Aside0 (kq ≤ k1) ∧ Aside0 (Kd.R (Kd.int .i64) 3 w' w.heap.size (fun k_ => some k_ ≠ (v7 : Value).ownBlock) (.slice (some ⟨go15, 0, none⟩) x5_1.length co7) x5_2) ∧ Aside0 (Kd.Q (Kd.int .i64) 3 w' w.heap.size (fun k_ => some k_ ≠ ((.slice (some ⟨go15, 0, none⟩) x5_1.length co7) : Value).ownBlock) v7 x7_2) ∧ Aside0 (Below w.heap.size w w'))
              case atStart => exact ⟨(y141), (y142), H', ⟨Nat.le_refl _⟩, ⟨by (try simp only [hl5_1]); (with_reducible repeat (first | apply Kd.R_alloc | apply Kd.R_drewN | apply Kd.R_drew)); exact Kd.R_mono HO_5.out (fun _ hk => hk.2)⟩, ⟨Kd.Q_of_R (by (try simp only [hl5_1]); (with_reducible repeat (first | apply Kd.R_alloc | apply Kd.R_drewN | apply Kd.R_drew)); exact Kd.R_mono HO144.out (fun _ hk => hk.2))⟩, ⟨by repeat (first | (with_reducible first | exact HB.out | apply below_alloc | apply pw_below_drewN | apply below_drew1) | exact HB.out)⟩⟩
              case round =>
                clear H'
                try clear c1
                try clear p1
                try clear q1
                try clear hx1
                try clear qi1
                try clear p2
                try clear c3
                try clear c3b0
                try clear c3b1
                try clear c4
                try clear c4b0
                try clear c4b1
                try clear c5
                try clear p6
                try clear c8
                try clear c8b0
                try clear c9
                try clear c9b0
                try clear c10
                try clear c10b0
                try clear p11
                try clear q11
                try clear hx11
                try clear hf11
                try clear c14
                try clear c14b0
                try clear c14b1
                try clear p15
                try clear q15
                try clear hx15
                try clear qi15
                try clear hf15
                try clear hx11_0
                try clear hx15_0
                try clear p11
                try clear p15
                try clear p2
                try clear q11
                try clear q15
                obtain ⟨x5_2, x7_2, HA, HK2, HO_5, HO_7, HB⟩ := hrel
                have hl5_2 := (Kd.R_reads' HO_5.out).1
                rw [hl5_2] at HO_5
                (try simp only [hl5_2])
                (try simp only [hl5_2] at HO_7)
                cases gk with
                | zero => exact absurd HA.out (by simp [spec_l13Come.l1])
                | succ k2 =>
                  have H := HA.out
                  clear HA
                  simp only [spec_l13Come.l1] at H
                  by_cases c20 : (x7_2.length : Int) > 0
                  · rw [if_pos c20] at H
                    have c20b0 : decide (0 < (x7_2.length : Int)) = true := decide_eq_true c20
                    have c20b1 : decide (0 < x7_2.length) = true := decide_eq_true (by omega)
                    clear c20
                    by_cases c21 : 0 < (x7_2.length : Int)
                    · rw [if_pos c21] at H
                      have c21b0 : decide (0 < (x7_2.length : Int)) = true := decide_eq_true c21
                      have c21b1 : decide (0 < x7_2.length) = true := decide_eq_true (by omega)
                      clear c21
                      by_cases c22 : 1 ≤ (x7_2.length : Int)
                      · rw [if_pos c22] at H
                        have c22b0 := eq_true c22
                        have c22b1 : decide (1 ≤ (x7_2.length : Int)) = true := decide_eq_true c22
                        clear c22
                        obtain ⟨y146, hy146⟩ : ∃ y_ : List Int, y_ = (x7_2.drop (1 : Int).toNat) := ⟨_, rfl⟩
                        replace H : (spec_l13Come.l2 k2 l0 l1 x5_2 y146 (rd x7_2 0) (l0.length : Int) 0) = some r := by first | (rw [hy146]; with_reducible exact H) | (have H2_ := (Option.bind_some _ _).symm.trans H; rw [hy146]; with_reducible exact H2_) | (have H2_ := (Option.bind_some _ _).symm.trans H; with_reducible exact H2_) | with_reducible exact H | (rw [hy146]; exact H) | exact H
                        have Ny146 := Aside0.mk hy146
                        clear hy146
                        have H' := Aside0.mk H
                        clear H
                        obtain ⟨Ao23, co23, eo23, _⟩ := Kd.Q_slice HO_7.out
                        subst eo23
                        have p145 : 0 ≤ (0 : Int) := (by omega)
                        have q145 : 0 < (x7_2.length : Int) := of_decide_eq_true (by first | (with_reducible assumption) | assumption)
                        obtain ⟨ad145, e145, hx145_0⟩ := Kd.at_int (Kd.Q_reads' HO_7.out).2.2 0 p145 q145
                        cases e145
                        have qi145 : (0 < x7_2.length) = True := eq_true (by omega)
                        (try rw [show ((0 : Int)).toNat = 0 from rfl] at hx145_0)
                        (try rw [Addr.add_zero'] at hx145_0)
                        replace p145 := eq_true p145
                        replace q145 := eq_true q145
                        have q24 : (1 : Int) ≤ ((x7_2.length : Int) : Int) := of_decide_eq_true (by first | (with_reducible assumption) | assumption)
                        obtain ⟨i024, hi024, _, hsz24, _⟩ := info_parts info3
                        have hcut24 := cut_from (P := Try.prog) 31 3 .i64 Try.underlying31 hi024 1 hsz24 (some ad145) x7_2.length co23 1 (by omega) q24
                        have hr24 := Kd.Q_drop (k := (1 : Int).toNat) HO_7.out (by omega)
                        obtain ⟨A24, hA24⟩ : ∃ A1, A1 = (if co23 = (1 : Int).toNat then (some ad145) else ((some ad145) : Option Addr).map (·.add ((1 : Int).toNat * 1))) := ⟨_, rfl⟩
                        obtain ⟨c24, hc24⟩ : ∃ c1, c1 = co23 - (1 : Int).toNat := ⟨_, rfl⟩
                        have hy24 : y146.length = x7_2.length - (1 : Int).toNat := (by rw [Ny146.out, List.length_drop])
                        rw [← Ny146.out] at hr24
                        rw [← hy24, ← hA24, ← hc24] at hcut24
                        replace hr24 : Kd.Q (Kd.int .i64) 3 wr w.heap.size (fun k_ => some k_ ≠ (.slice (some ⟨go15, 0, none⟩) x5_2.length co7 : Value).ownBlock) (.slice A24 y146.length c24) y146 := (by rw [hA24, hc24, hy24]; exact hr24)
                        have HE24 : Aside0 ((Value.slice A24 y146.length c24).ownBlock = (.slice (some ad145) x7_2.length co23 : Value).ownBlock) := ⟨by rw [hA24]; split <;> (cases ((some ad145) : Option Addr) <;> rfl)⟩
                        clear hy24 hi024 hsz24 HO_7 hA24 hc24
                        have HO148 := Aside0.mk hr24
                        clear hr24
                        replace q24 := eq_true q24
                        have n_ := Aside0.mk (Kd.R_mono (ok' := fun k_ => some k_ ≠ (.slice A24 y146.length c24 : Value).ownBlock) HO_5.out (fun k_ hk => (by rw [HE24.out]; exact hk)))
                        clear HO_5
                        have HO_5 := n_
                        clear n_
                        go_wp2
                        go_loopg [7, 35] k2 (fun kq v7 v35 w' => ∃ (x5_3 : List Int) (x7_3 : List Int) (x35_3 : Int), v35 = .int .i64 x35_3 ∧ Aside0 (spec_l13Come.l2 kq l0 l1 x5_3 x7_3 (rd x7_2 0) (l0.length : Int) x35_3 = some r) ∧ Aside0 (kq ≤ k2) ∧ Aside0 (Kd.R (Kd.int .i64) 3 w' w.heap.size (fun k_ => some k_ ≠ (v7 : Value).ownBlock) (.slice (some ⟨go15, 0, none⟩) x5_2.length co7) x5_3) ∧ Aside0 (Kd.Q (Kd.int .i64) 3 w' w.heap.size (fun k_ => some k_ ≠ ((.slice (some ⟨go15, 0, none⟩) x5_2.length co7) : Value).ownBlock) v7 x7_3) ∧ Aside0 (Below w.heap.size w w'))
                        case atStart => exact ⟨(x5_2), (y146), (0), (by first | rfl | (simp; done) | (simp [*]; done)), H', ⟨Nat.le_refl _⟩, ⟨by (try simp only [hl5_1]); (try simp only [hl5_2]); (with_reducible repeat (first | apply Kd.R_alloc | apply Kd.R_drewN | apply Kd.R_drew)); exact HO_5.out⟩, ⟨by (try simp only [hl5_1]); (try simp only [hl5_2]); (with_reducible repeat (first | apply Kd.Q_alloc | apply Kd.Q_drewN | apply Kd.Q_drew)); exact HO148.out⟩, ⟨by repeat (first | (with_reducible first | exact HB.out | apply below_alloc | apply pw_below_drewN | apply below_drew1) | exact HB.out)⟩⟩
                        case round =>
                          clear H'
                          try clear c1
                          try clear p1
                          try clear q1
                          try clear hx1
                          try clear qi1
                          try clear c2
                          try clear p2
                          try clear q2
                          try clear c3
                          try clear c3b0
                          try clear c3b1
                          try clear c4
                          try clear c4b0
                          try clear c4b1
                          try clear c5
                          try clear p6
                          try clear c8
                          try clear c8b0
                          try clear c9
                          try clear c9b0
                          try clear c10
                          try clear c10b0
                          try clear p11
                          try clear q11
                          try clear hx11
                          try clear hf11
                          try clear c14
                          try clear c14b0
                          try clear c14b1
                          try clear p14
                          try clear q14
                          try clear hx14
                          try clear qi14
                          try clear p15
                          try clear q15
                          try clear hx15
                          try clear qi15
                          try clear hf15
                          try clear c20
                          try clear c20b0
                          try clear c20b1
                          try clear c21
                          try clear c21b0
                          try clear c21b1
                          try clear c22
                          try clear c22b0
                          try clear c22b1
                          try clear c24
                          try clear q24
                          try clear hx11_0
                          try clear hx145_0
                          try clear hx15_0
                          try clear p1
                          try clear p11
                          try clear p145
                          try clear p15
                          try clear p2
                          try clear p6
                          try clear q1
                          try clear q11
                          try clear q145
                          try clear q15
                          try clear q24
                          obtain ⟨x5_3, x7_3, x35_3, rfl, HA, HK3, HO_5, HO_7, HB⟩ := hrel
                          have hl5_3 := (Kd.R_reads' HO_5.out).1
                          rw [hl5_3] at HO_5
                          (try simp only [hl5_3])
                          (try simp only [hl5_3] at HO_7)
                          cases gk with
                          | zero => exact absurd HA.out (by simp [spec_l13Come.l2])
                          | succ k3 =>
                            have H := HA.out
                            clear HA
                            simp only [spec_l13Come.l2] at H
                            by_cases c25 : x35_3 < (l0.length : Int)
                            · rw [if_pos c25] at H
                              have c25b0 : decide (x35_3 < (l0.length : Int)) = true := decide_eq_true c25
                              clear c25
                              by_cases c26 : 0 ≤ x35_3
                              · rw [if_pos c26] at H
                                have c26b0 : decide (0 ≤ x35_3) = true := decide_eq_true c26
                                clear c26
                                by_cases c27 : x35_3 < (x5_3.length : Int)
                                · rw [if_pos c27] at H
                                  have c27b0 : decide (x35_3 < (x5_3.length : Int)) = true := decide_eq_true c27
                                  clear c27
                                  by_cases c28 : (rd x5_3 x35_3) = (-2)
                                  · rw [if_pos c28] at H
                                    have c28b0 : ((rd x5_3 x35_3) == (-2)) = true := beq_iff_eq.mpr c28
                                    have c28b1 : ((rd x5_3 x35_3) != (-2)) = false := bne_eq_false_iff_eq.mpr c28
                                    clear c28
                                    replace H := Option.bind_eq_some_iff.mp H
                                    obtain ⟨t150, A290, H⟩ := H
                                    replace H : (if t150 > 0 then (if x7_3.length < 17592186044416 then (spec_l13Come.l2 k3 l0 l1 (x5_3.set (x35_3 : Int).toNat (rd x7_2 0)) (x7_3 ++ [x35_3]) (rd x7_2 0) (l0.length : Int) (wrap64 (x35_3 + 1))) else (none)) else (spec_l13Come.l2 k3 l0 l1 x5_3 x7_3 (rd x7_2 0) (l0.length : Int) (wrap64 (x35_3 + 1)))) = some r := H
                                    have A29 := Aside0.mk A290
                                    clear A290
                                    by_cases c30 : t150 > 0
                                    · rw [if_pos c30] at H
                                      have c30b0 : decide (0 < t150) = true := decide_eq_true c30
                                      clear c30
                                      obtain ⟨y151, hy151⟩ : ∃ y_ : List Int, y_ = (x5_3.set (x35_3 : Int).toNat (rd x7_2 0)) := ⟨_, rfl⟩
                                      replace H : (if x7_3.length < 17592186044416 then (spec_l13Come.l2 k3 l0 l1 y151 (x7_3 ++ [x35_3]) (rd x7_2 0) (l0.length : Int) (wrap64 (x35_3 + 1))) else (none)) = some r := by first | (rw [hy151]; with_reducible exact H) | (have H2_ := (Option.bind_some _ _).symm.trans H; rw [hy151]; with_reducible exact H2_) | (have H2_ := (Option.bind_some _ _).symm.trans H; with_reducible exact H2_) | with_reducible exact H | (rw [hy151]; exact H) | exact H
                                      have Ny151 := Aside0.mk hy151
                                      clear hy151
                                      by_cases c32 : x7_3.length < 17592186044416
                                      · rw [if_pos c32] at H
                                        have LMc32 := Aside0.mk c32
                                        clear c32
                                        obtain ⟨y152, hy152⟩ : ∃ y_ : List Int, y_ = (x7_3 ++ [x35_3]) := ⟨_, rfl⟩
                                        replace H : (spec_l13Come.l2 k3 l0 l1 y151 y152 (rd x7_2 0) (l0.length : Int) (wrap64 (x35_3 + 1))) = some r := by first | (rw [hy152]; with_reducible exact H) | (have H2_ := (Option.bind_some _ _).symm.trans H; rw [hy152]; with_reducible exact H2_) | (have H2_ := (Option.bind_some _ _).symm.trans H; with_reducible exact H2_) | with_reducible exact H | (rw [hy152]; exact H) | exact H
                                        have Ny152 := Aside0.mk hy152
                                        clear hy152
                                        have H' := Aside0.mk H
                                        clear H
                                        have p149 : 0 ≤ (x35_3 : Int) := of_decide_eq_true (by first | (with_reducible assumption) | assumption)
                                        have q149 : x35_3 < (x5_3.length : Int) := of_decide_eq_true (by first | (with_reducible assumption) | assumption)
                                        obtain ⟨ad149, e149, hx149_0⟩ := Kd.at_int (Kd.R_reads' HO_5.out).2.2 x35_3 p149 q149
                                        obtain rfl : (⟨go15, 0, none⟩ : Addr) = ad149 := (by injection e149)
                                        (first | simp only [add_plain] at hx149_0 | simp only [add_at] at hx149_0 | simp only [Addr.add, Nat.zero_add] at hx149_0 | skip)
                                        replace p149 := eq_true p149
                                        replace q149 := eq_true q149
                                        go_wp2_with (first | (go_at_call 47; (with_reducible refine (spec_l13Room.calls _ _ l0 _ _ l1 (rd x7_2 0) x35_3 t150 _ ?side1 ?side2 ?side3 ?side4 A29.out).mono ?_); (case side1 => repeat (first | exact (Kd.C_below HR0.out HB.out) | (with_reducible refine Kd.C_alloc ?_ _) | (with_reducible refine Kd.C_drewN ?_ _) | (with_reducible refine Kd.C_drew ?_))); (case side2 => exact HC0.out); (case side3 => repeat (first | exact (Kd.C_below HR1.out HB.out) | (with_reducible refine Kd.C_alloc ?_ _) | (with_reducible refine Kd.C_drewN ?_ _) | (with_reducible refine Kd.C_drew ?_))); (case side4 => exact HC1.out); rintro e w' ⟨rfl, ⟨nd, rfl⟩⟩; (try (rw [drewN_self wr]; generalize hq_ : World.drewN wr _ = wr; have n0_ : Aside0 (Kd.R (Kd.int .i64) 3 wr w.heap.size (fun k_ => some k_ ≠ (u7 : Value).ownBlock) (.slice (some ⟨go15, 0, none⟩) x5_3.length co7) x5_3) := ⟨by rw [← hq_]; exact (by (with_reducible repeat (first | apply Kd.R_alloc | apply Kd.R_drewN | apply Kd.R_drew)); exact HO_5.out)⟩; have n1_ : Aside0 (Kd.Q (Kd.int .i64) 3 wr w.heap.size (fun k_ => some k_ ≠ (.slice (some ⟨go15, 0, none⟩) x5_3.length co7 : Value).ownBlock) u7 x7_3) := ⟨by rw [← hq_]; exact (by (with_reducible repeat (first | apply Kd.Q_alloc | apply Kd.Q_drewN | apply Kd.Q_drew)); exact HO_7.out)⟩; have n2_ : Aside0 (Below w.heap.size w wr) := ⟨by rw [← hq_]; exact (by repeat (first | (with_reducible first | exact HB.out | apply below_alloc | apply pw_below_drewN | apply below_drew1) | exact HB.out))⟩; clear HO_5 HO_7 HB hq_; have HO_5 := n0_; have HO_7 := n1_; have HB := n2_; clear n0_ n1_ n2_)); have p31 : 0 ≤ (x35_3 : Int) := of_decide_eq_true (by first | (with_reducible assumption) | assumption); have q31 : (x35_3 : Int) < ((x5_3.length : Int) : Int) := of_decide_eq_true (by first | (with_reducible assumption) | assumption); obtain ⟨hx31_0, hf31_0⟩ := Kd.R_celln 0 HO_5.out (x35_3 : Int) p31 q31; replace p31 := eq_true p31; replace q31 := eq_true q31; obtain ⟨hy33_, hz33_⟩ := Kd.R_celln 0 HO_5.out (x35_3 : Int) (of_decide_eq_true (by first | (with_reducible assumption) | assumption)) (of_decide_eq_true (by first | (with_reducible assumption) | assumption)); have HP33 := Kd.R_putg HO_5.out (x35_3 : Int) (rd x7_2 0)) | ((with_reducible refine gate_store (t := 3) (p := 54) rfl ?_); refine store_event (t := 3) (p := 54) (v := ?vo_w34) (w1 := (wr.setCell ⟨go15, (x35_3 : Int).toNat, none⟩ (.int .i64 (rd x7_2 0)))) ?hg ?ho ?hn ?hr ?_; (case ho => rfl); (case hg => rfl); (case hn => rfl); (case hr => first | (go_simp; done) | (go_simp; rfl)); intro w34 hw; have hg : wr.grownBy w34 (some go15) := (by rw [hw]; exact HP33.2); have hp_ : Kd.R (Kd.int .i64) 3 w34 w.heap.size (fun k_ => some k_ ≠ (u7 : Value).ownBlock) (.slice (some ⟨go15, 0, none⟩) x5_3.length co7) y151 := (by rw [hw, Ny151.out]; exact HP33.1); clear HP33; have n0_ := Aside0.mk (hp_); have n1_ := Aside0.mk (Kd.Q_after (v := (.slice (some ⟨go15, 0, none⟩) x5_3.length co7)) (v1 := (.slice (some ⟨go15, 0, none⟩) x5_3.length co7)) (ok := (fun _ => True)) (by (with_reducible repeat (first | apply Kd.Q_alloc | apply Kd.Q_drewN | apply Kd.Q_drew)); exact Kd.Q_mono HO_7.out (fun _ hk => ⟨trivial, hk⟩)) hg (.inl rfl)); have n2_ := Aside0.mk ((by rw [hw]; exact below_set (HB.out) GB15.out : Below w.heap.size w w34)); clear HO_5; clear HO_7; clear HB; have HO_5 := n0_; have HO_7 := n1_; have HB := n2_; clear n0_ n1_ n2_; clear hg hw hp_) | ((with_reducible refine gate_builtin (b := .append) (xs := #[.tmp 55, .tmp 57]) rfl ?_); at_builtin; refine Kd.Q_append (Kd.int .i64) (w0 := w) w.heap.size rfl (.tmp 55) (.tmp 57) 31 3 (.int .i64 0) 8 rfl Try.underlying31 info3 rfl (by decide) (by omega) u7 x7_3 x35_3 [.int .i64 x35_3] (fun k_ => some k_ ≠ (.slice (some ⟨go15, 0, none⟩) x5_3.length co7 : Value).ownBlock) (fun _ => False) rfl rfl ?aP (fun _ hk => hk.elim) ?aF ?aO ?aB ?aS ?aL ?_; (case aP => exact rfl); (case aB => exact (by repeat (first | (with_reducible first | exact HB.out | apply below_alloc | apply pw_below_drewN | apply below_drew1) | exact HB.out))); (case aF => exact (fun k_ hk => Kd.fresh' (Kd.R_lt (by (with_reducible repeat (first | apply Kd.R_alloc | apply Kd.R_drewN | apply Kd.R_drew)); exact HO_5.out)) k_ hk)); (case aO => exact (by (with_reducible repeat (first | apply Kd.Q_alloc | apply Kd.Q_drewN | apply Kd.Q_drew)); exact Kd.Q_mono HO_7.out (fun _ hk => hk.2))); (case aS => exact (below_size (by repeat (first | (with_reducible first | exact HB.out | apply below_alloc | apply pw_below_drewN | apply below_drew1) | exact HB.out)))); (case aL => have := LMc32.out; omega); intro v153 w35 ho hb hg hat; rw [← Ny152.out] at ho; have n0_ := Aside0.mk (Kd.R_after (ok := (fun _ => True)) (by (with_reducible repeat (first | apply Kd.R_alloc | apply Kd.R_drewN | apply Kd.R_drew)); exact Kd.R_mono HO_5.out (fun _ hk => ⟨trivial, hk⟩)) hg hat); have n1_ := Aside0.mk (hb); have n2_ := Aside0.mk (ho); clear HO_5; clear HB; clear HO_7; have HO_5 := n0_; have HB := n1_; have HO154 := n2_; clear n0_ n1_ n2_; clear ho hb hg hat))
                                        (try simp only [← hl5_3])
                                        go_roundg k3
                                        case measure => have := HK1.out; have := HK2.out; have := HK3.out; omega
                                        case rel => exact ⟨(y151), (y152), (wrap64 (x35_3 + 1)), (by first | rfl | (simp; done) | (simp [*]; done)), H', ⟨by have := HK1.out; have := HK2.out; have := HK3.out; omega⟩, ⟨by (try simp only [hl5_1]); (try simp only [hl5_2]); (try simp only [hl5_3]); (with_reducible repeat (first | apply Kd.R_alloc | apply Kd.R_drewN | apply Kd.R_drew)); exact Kd.R_mono HO_5.out (fun _ hk => hk.2)⟩, ⟨by (try simp only [hl5_1]); (try simp only [hl5_2]); (try simp only [hl5_3]); (with_reducible repeat (first | apply Kd.Q_alloc | apply Kd.Q_drewN | apply Kd.Q_drew)); exact HO154.out⟩, ⟨by repeat (first | (with_reducible first | exact HB.out | apply below_alloc | apply pw_below_drewN | apply below_drew1) | exact HB.out)⟩⟩
                                      · rw [if_neg c32] at H
                                        exact absurd H (by simp)
                                    · rw [if_neg c30] at H
                                      have c30b0 : decide (0 < t150) = false := decide_eq_false c30
                                      clear c30
                                      have H' := Aside0.mk H
                                      clear H
                                      have p149 : 0 ≤ (x35_3 : Int) := of_decide_eq_true (by first | (with_reducible assumption) | assumption)
                                      have q149 : x35_3 < (x5_3.length : Int) := of_decide_eq_true (by first | (with_reducible assumption) | assumption)
                                      obtain ⟨ad149, e149, hx149_0⟩ := Kd.at_int (Kd.R_reads' HO_5.out).2.2 x35_3 p149 q149
                                      obtain rfl : (⟨go15, 0, none⟩ : Addr) = ad149 := (by injection e149)
                                      (first | simp only [add_plain] at hx149_0 | simp only [add_at] at hx149_0 | simp only [Addr.add, Nat.zero_add] at hx149_0 | skip)
                                      replace p149 := eq_true p149
                                      replace q149 := eq_true q149
                                      go_wp2_with (first | (go_at_call 47; (with_reducible refine (spec_l13Room.calls _ _ l0 _ _ l1 (rd x7_2 0) x35_3 t150 _ ?side1 ?side2 ?side3 ?side4 A29.out).mono ?_); (case side1 => repeat (first | exact (Kd.C_below HR0.out HB.out) | (with_reducible refine Kd.C_alloc ?_ _) | (with_reducible refine Kd.C_drewN ?_ _) | (with_reducible refine Kd.C_drew ?_))); (case side2 => exact HC0.out); (case side3 => repeat (first | exact (Kd.C_below HR1.out HB.out) | (with_reducible refine Kd.C_alloc ?_ _) | (with_reducible refine Kd.C_drewN ?_ _) | (with_reducible refine Kd.C_drew ?_))); (case side4 => exact HC1.out); rintro e w' ⟨rfl, ⟨nd, rfl⟩⟩))
                                      (try simp only [← hl5_3])
                                      go_roundg k3
                                      case measure => have := HK1.out; have := HK2.out; have := HK3.out; omega
                                      case rel => exact ⟨(x5_3), (x7_3), (wrap64 (x35_3 + 1)), (by first | rfl | (simp; done) | (simp [*]; done)), H', ⟨by have := HK1.out; have := HK2.out; have := HK3.out; omega⟩, ⟨by (try simp only [hl5_1]); (try simp only [hl5_2]); (try simp only [hl5_3]); (with_reducible repeat (first | apply Kd.R_alloc | apply Kd.R_drewN | apply Kd.R_drew)); exact HO_5.out⟩, ⟨by (try simp only [hl5_1]); (try simp only [hl5_2]); (try simp only [hl5_3]); (with_reducible repeat (first | apply Kd.Q_alloc | apply Kd.Q_drewN | apply Kd.Q_drew)); exact HO_7.out⟩, ⟨by repeat (first | (with_reducible first | exact HB.out | apply below_alloc | apply pw_below_drewN | apply below_drew1) | exact HB.out)⟩⟩
                                  · rw [if_neg c28] at H
                                    have c28b0 : ((rd x5_3 x35_3) == (-2)) = false := beq_eq_false_iff_ne.mpr c28
                                    have c28b1 : ((rd x5_3 x35_3) != (-2)) = true := bne_iff_ne.mpr c28
                                    have H' := Aside0.mk H
                                    clear H
                                    have p149 : 0 ≤ (x35_3 : Int) := of_decide_eq_true (by first | (with_reducible assumption) | assumption)
                                    have q149 : x35_3 < (x5_3.length : Int) := of_decide_eq_true (by first | (with_reducible assumption) | assumption)
                                    obtain ⟨ad149, e149, hx149_0⟩ := Kd.at_int (Kd.R_reads' HO_5.out).2.2 x35_3 p149 q149
                                    obtain rfl : (⟨go15, 0, none⟩ : Addr) = ad149 := (by injection e149)
                                    (first | simp only [add_plain] at hx149_0 | simp only [add_at] at hx149_0 | simp only [Addr.add, Nat.zero_add] at hx149_0 | skip)
                                    replace p149 := eq_true p149
                                    replace q149 := eq_true q149
                                    go_wp2
                                    (try simp only [← hl5_3])
                                    go_roundg k3
                                    case measure => have := HK1.out; have := HK2.out; have := HK3.out; omega
                                    case rel => exact ⟨(x5_3), (x7_3), (wrap64 (x35_3 + 1)), (by first | rfl | (simp; done) | (simp [*]; done)), H', ⟨by have := HK1.out; have := HK2.out; have := HK3.out; omega⟩, ⟨by (try simp only [hl5_1]); (try simp only [hl5_2]); (try simp only [hl5_3]); (with_reducible repeat (first | apply Kd.R_alloc | apply Kd.R_drewN | apply Kd.R_drew)); exact HO_5.out⟩, ⟨by (try simp only [hl5_1]); (try simp only [hl5_2]); (try simp only [hl5_3]); (with_reducible repeat (first | apply Kd.Q_alloc | apply Kd.Q_drewN | apply Kd.Q_drew)); exact HO_7.out⟩, ⟨by repeat (first | (with_reducible first | exact HB.out | apply below_alloc | apply pw_below_drewN | apply below_drew1) | exact HB.out)⟩⟩
                                · rw [if_neg c27] at H
                                  exact absurd H (by simp)
                              · rw [if_neg c26] at H
                                exact absurd H (by simp)
                            · rw [if_neg c25] at H
                              have c25b0 : decide (x35_3 < (l0.length : Int)) = false := decide_eq_false c25
                              clear c25
                              have H' := Aside0.mk H
                              clear H
                              go_wp2
                              (try simp only [← hl5_2, ← hl5_3])
                              go_roundg k3
                              case measure => have := HK1.out; have := HK2.out; have := HK3.out; omega
                              case rel => exact ⟨(x5_3), (x7_3), H', ⟨by have := HK1.out; have := HK2.out; have := HK3.out; omega⟩, ⟨by (try simp only [hl5_1]); (try simp only [hl5_2]); (try simp only [hl5_3]); (with_reducible repeat (first | apply Kd.R_alloc | apply Kd.R_drewN | apply Kd.R_drew)); exact HO_5.out⟩, ⟨by (try simp only [hl5_1]); (try simp only [hl5_2]); (try simp only [hl5_3]); (with_reducible repeat (first | apply Kd.Q_alloc | apply Kd.Q_drewN | apply Kd.Q_drew)); exact HO_7.out⟩, ⟨by repeat (first | (with_reducible first | exact HB.out | apply below_alloc | apply pw_below_drewN | apply below_drew1) | exact HB.out)⟩⟩
                      · rw [if_neg c22] at H
                        exact absurd H (by simp)
                    · rw [if_neg c21] at H
                      exact absurd H (by simp)
                  · rw [if_neg c20] at H
                    have c20b0 : decide (0 < (x7_2.length : Int)) = false := decide_eq_false c20
                    have c20b1 : decide (0 < x7_2.length) = false := decide_eq_false (by omega)
                    clear c20
                    obtain rfl := Option.some.inj H
                    obtain ⟨Ao36, co36, eo36, _⟩ := Kd.Q_slice HO_7.out
                    subst eo36
                    go_wp2
                    go_ret
                    exact ⟨_, by first | rfl | (simp [errW_none, errW_some] <;> rfl) | (simp [*, errW_none, errW_some] <;> rfl), by (with_reducible repeat (first | apply Kd.R_alloc | apply Kd.R_drewN | apply Kd.R_drew)); exact Kd.R_mono HO_5.out (fun _ hk => trivial), by repeat (first | (with_reducible first | exact HB.out | apply below_alloc | apply pw_below_drewN | apply below_drew1) | exact HB.out)⟩
            · rw [if_neg c14] at H
              exact absurd H (by simp)
    · rw [if_neg c4] at H
      exact absurd H (by simp)
  · rw [if_neg c3] at H
    exact absurd H (by simp)

/-! ### spec_l13Push: function 49 -/
/-- A store into a row of rows of the call's own: what lies there, and the rows behind it. -/
theorem spec_l13Push.put {W : World} {base n cap : Nat} {ok : Nat → Prop} {ad : Addr} {xs : List (List Int)} (HS : Kd.S (Kd.slice 3 (Kd.int .i64)) 31 W base ok (.slice (some ad) n cap) xs) (i j : Int) (hi0 : 0 ≤ i) (hi1 : i < (xs.length : Int)) (hj0 : 0 ≤ j) (hj1 : j < ((rd_L1 xs i).length : Int)) :
    ∃ g ci, W.cell? (ad.add i.toNat) = some (.slice (some ⟨g, 0, none⟩) (rd_L1 xs i).length ci) ∧ W.cell? ⟨g, j.toNat, none⟩ = some (.int .i64 (rd (rd_L1 xs i) j)) ∧ W.frozen? ⟨g, j.toNat, none⟩ = false ∧ (ok g ∧ base ≤ g) ∧ ∀ v, Kd.S (Kd.slice 3 (Kd.int .i64)) 31 (W.setCell ⟨g, j.toNat, none⟩ (.int .i64 v)) base ok (.slice (some ad) n cap) (xs.set i.toNat ((rd_L1 xs i).set j.toNat v)) := by
  obtain ⟨hn, _, _⟩ := Kd.S_reads' HS
  obtain ⟨oki, c, hcl, hM, hcc, hoki, hback⟩ := Kd.S_borrow HS [] i hi0 (by omega)
  obtain ⟨v0, rfl, hR⟩ := hM
  have hR' : Kd.R (Kd.int .i64) 3 W base oki v0 (rd_L1 xs i) := hR
  have hx := hcc 0 v0 rfl
  rw [Nat.add_zero, show ((Kd.slice 3 (Kd.int .i64))).sz = 1 from rfl, Nat.mul_one] at hx
  obtain ⟨g, ci, rfl, hb, hl, hG⟩ := Kd.R_form hR' (by omega)
  obtain ⟨h1, h2⟩ := Kd.R_celln 0 hR' j hj0 hj1
  have hg : oki g := hR'.1 g (by simp [Value.ownBlock])
  refine ⟨g, ci, hx, h1, h2, ⟨(hoki g hg).1, hb⟩, fun v => ?_⟩
  have hp := Kd.R_putg hR' j v
  exact hback hp.2 (fun k hk => by injection hk with hk; rw [← hk]; exact hg) ⟨_, rfl, hp.1⟩
def spec_l13Push.by_ (l0 l1 : List (List Int)) (l2 : List Int) : Nat → Nat → Int → Option Int
  | 0, _, b => some b
  | m + 1, i, b => (spec_l13Room.f l0 l1 (rd l2 ((i : Int) - 1)) (rd l2 (i : Int))).bind fun r => spec_l13Push.by_ l0 l1 l2 m (i + 1) (if r < b then r else b)
def spec_l13Push.back (F : List (List Int)) (a b m : Int) : Int := if rd (rd_L1 F b) a > m then m else rd (rd_L1 F b) a
def spec_l13Push.one (F : List (List Int)) (a b m : Int) : List (List Int) := F.set b.toNat ((rd_L1 F b).set a.toNat (wrap64 (rd (rd_L1 F b) a - spec_l13Push.back F a b m)))
def spec_l13Push.two (F : List (List Int)) (a b m : Int) : List (List Int) := (spec_l13Push.one F a b m).set a.toNat ((rd_L1 (spec_l13Push.one F a b m) a).set b.toNat (wrap64 (rd (rd_L1 (spec_l13Push.one F a b m) a) b + wrap64 (m - spec_l13Push.back F a b m))))
def spec_l13Push.put_ (l2 : List Int) (mu : Int) : Nat → Nat → List (List Int) → Option (List (List Int))
  | 0, _, F => some F
  | m + 1, i, F => if ((0 ≤ rd l2 (i : Int) ∧ rd l2 (i : Int) < (F.length : Int)) ∧ (0 ≤ rd l2 ((i : Int) - 1) ∧ rd l2 ((i : Int) - 1) < ((rd_L1 F (rd l2 (i : Int))).length : Int))) ∧ (rd l2 ((i : Int) - 1) < (F.length : Int) ∧ rd l2 (i : Int) < ((rd_L1 (spec_l13Push.one F (rd l2 ((i : Int) - 1)) (rd l2 (i : Int)) mu) (rd l2 ((i : Int) - 1))).length : Int)) then spec_l13Push.put_ l2 mu m (i + 1) (spec_l13Push.two F (rd l2 ((i : Int) - 1)) (rd l2 (i : Int)) mu) else none
def spec_l13Push.g (l0 l1 : List (List Int)) (l2 : List Int) : Option (Int × List (List Int)) := (spec_l13Push.by_ l0 l1 l2 (l2.length - 1) 1 100).bind fun b => (spec_l13Push.put_ l2 b (l2.length - 1) 1 l1).bind fun F => some (b, F)
set_option maxHeartbeats 8000000 in
set_option maxRecDepth 100000 in
theorem spec_l13Push.pushes (A0 : Option Addr) (c0 : Nat) (l0 : List (List Int)) (P0_ : Nat → Prop) (u : Value) (l1 : List (List Int)) (A2 : Option Addr) (c2 : Nat) (l2 : List Int) (mu : Int) (r : List (List Int)) (w0 w : World) (hB : Below w0.heap.size w0 w) (hr0 : Kd.C (Kd.slice 3 (Kd.int .i64)) w0 A0 l0.length l0) (hc0 : l0.length ≤ c0)
    (ho1 : Kd.S (Kd.slice 3 (Kd.int .i64)) 31 w w0.heap.size P0_ u l1) (hne : 0 < l1.length) (hr2 : ∀ W', Kept w W' P0_ → Kd.C (Kd.int .i64) W' A2 l2.length l2) (h : spec_l13Push.g l0 l1 l2 = some (mu, r)) :
    Calls Try.prog 49 #[.slice A0 l0.length c0, u, .slice A2 l2.length c2] w fun e w' => e = .returned (.int .i64 mu) ∧ Kd.S (Kd.slice 3 (Kd.int .i64)) 31 w' w0.heap.size P0_ u r ∧ Below w0.heap.size w0 w' ∧ Kept w w' P0_ := by
  unfold spec_l13Push.g at h
  replace h := Option.bind_eq_some_iff.mp h
  obtain ⟨mu', hmu, h⟩ := h
  replace h := Option.bind_eq_some_iff.mp h
  obtain ⟨r', hr, h⟩ := h
  simp only [Option.some.injEq, Prod.mk.injEq] at h
  obtain ⟨rfl, rfl⟩ := h
  obtain ⟨g1, c1, rfl, hg1b, hg1l, _⟩ := Kd.S_form ho1 hne
  have hm2 := Kd.C_max (hr2 w (Kept.refl w P0_))
  have HM := Aside0.mk (show l2.length ≤ 9223372036854775807 by first | omega | (unfold maxLen at hm2; omega))
  have HR0 := Aside0.mk hr0
  have HC0 := Aside0.mk hc0
  have HR2 := Aside0.mk hr2
  have HS := Aside0.mk ho1
  have HB := Aside0.mk hB
  have HMU := Aside0.mk hmu
  have HPU := Aside0.mk hr
  have HK := Aside0.mk (Kept.refl w P0_)
  have HC1 := Aside0.mk (Kd.S_reads' ho1).2.1
  have HNE := Aside0.mk hne
  clear hr0 hc0 hr2 ho1 hB hmu hr hm2 hg1b hg1l hne
  go_enter Try.func49, Try.ntmps49
  go_wp2
  go_loopg [7, 8] (l2.length + 1) (fun gk v7 v8 w' => ∃ (m i : Nat) (b : Int), v7 = .int .i64 b ∧ v8 = .int .i64 (i : Int) ∧ Aside0 (1 ≤ i ∧ (l2.length ≤ i ∧ m = 0 ∨ i + m = l2.length) ∧ m < gk) ∧ Aside0 (spec_l13Push.by_ l0 l1 l2 m i b = some mu') ∧ Aside0 (Kd.S (Kd.slice 3 (Kd.int .i64)) 31 w' w0.heap.size P0_ (.slice (some ⟨g1, 0, none⟩) l1.length c1) l1) ∧ Aside0 (Below w0.heap.size w0 w') ∧ Aside0 (Kept w w' P0_))
  case atStart => exact ⟨l2.length - 1, 1, 100, rfl, rfl, ⟨by omega, by omega, by omega⟩, HMU, HS, HB, HK⟩
  case round =>
    clear HMU HS HB HK
    obtain ⟨m, i, b, rfl, rfl, HI, HMU, HS, HB, HK⟩ := hrel
    cases m with
    | zero =>
      have hmu := HMU.out
      rw [spec_l13Push.by_] at hmu
      obtain rfl := Option.some.inj hmu
      clear hmu HMU
      have d1 : decide ((i : Int) < (l2.length : Int)) = false := decide_eq_false (by have := HI.out; omega)
      have d2 : ((i : Int) < (l2.length : Int)) = False := eq_false (by have := HI.out; omega)
      have d3 : decide (i < l2.length) = false := decide_eq_false (by have := HI.out; omega)
      have d4 : (i < l2.length) = False := eq_false (by have := HI.out; omega)
      clear HI
      go_wp2
      clear d1 d2 d3 d4
      go_loopg [10] (l2.length + 1) (fun gk v10 w' => ∃ (m i : Nat) (F : List (List Int)), v10 = .int .i64 (i : Int) ∧ Aside0 (1 ≤ i ∧ (l2.length ≤ i ∧ m = 0 ∨ i + m = l2.length) ∧ m < gk) ∧ Aside0 (F.length = l1.length ∧ spec_l13Push.put_ l2 b m i F = some r') ∧ Aside0 (Kd.S (Kd.slice 3 (Kd.int .i64)) 31 w' w0.heap.size P0_ (.slice (some ⟨g1, 0, none⟩) l1.length c1) F) ∧ Aside0 (Below w0.heap.size w0 w') ∧ Aside0 (Kept w w' P0_))
      case atStart => exact ⟨l2.length - 1, 1, l1, rfl, ⟨by omega, by omega, by omega⟩, ⟨rfl, HPU.out⟩, HS, HB, HK⟩
      case round =>
        clear HPU HS HB HK
        obtain ⟨m, j, F, rfl, HI, HPU, HS, HB, HK⟩ := hrel
        cases m with
        | zero =>
          have hpu := HPU.out.2
          rw [spec_l13Push.put_] at hpu
          obtain rfl := Option.some.inj hpu
          clear hpu HPU
          have d1 : decide ((j : Int) < (l2.length : Int)) = false := decide_eq_false (by have := HI.out; omega)
          have d2 : ((j : Int) < (l2.length : Int)) = False := eq_false (by have := HI.out; omega)
          have d3 : decide (j < l2.length) = false := decide_eq_false (by have := HI.out; omega)
          have d4 : (j < l2.length) = False := eq_false (by have := HI.out; omega)
          clear HI
          go_wp2
          go_ret
          exact ⟨rfl, HS.out, HB.out, HK.out⟩
        | succ m =>
          have hpu := HPU.out.2
          rw [spec_l13Push.put_] at hpu
          split at hpu
          case isFalse => cases hpu
          case isTrue hq =>
          have HFL := Aside0.mk HPU.out.1
          have HJ := Aside0.mk (show 1 ≤ j ∧ j + 1 + m = l2.length ∧ m + 1 < gk by have := HI.out; omega)
          have HPUT := Aside0.mk hpu
          clear hpu HPU HI
          have d1 : decide ((j : Int) < (l2.length : Int)) = true := decide_eq_true (by have := HJ.out; omega)
          have d2 : ((j : Int) < (l2.length : Int)) = True := eq_true (by have := HJ.out; omega)
          have d3 : decide (j < l2.length) = true := decide_eq_true (by have := HJ.out; omega)
          have d4 : (j < l2.length) = True := eq_true (by have := HJ.out; omega)
          have d5 : decide (0 ≤ (j : Int)) = true := decide_eq_true (by omega)
          have d6 : (0 ≤ (j : Int)) = True := eq_true (by omega)
          have d7 : decide (0 ≤ (j : Int) - 1) = true := decide_eq_true (by have := HJ.out; omega)
          have d8 : (0 ≤ (j : Int) - 1) = True := eq_true (by have := HJ.out; omega)
          have d9 : decide ((j : Int) - 1 < (l2.length : Int)) = true := decide_eq_true (by have := HJ.out; omega)
          have d10 : ((j : Int) - 1 < (l2.length : Int)) = True := eq_true (by have := HJ.out; omega)
          have d11 : (1 ≤ (j : Int)) = True := eq_true (by have := HJ.out; omega)
          have d12 : decide (1 ≤ (j : Int)) = true := decide_eq_true (by have := HJ.out; omega)
          have e1 : IntKind.i64.wrap ((j : Int) - 1) = (j : Int) - 1 := IntWalk.i64_in _ (by have := HJ.out; have := HM.out; omega)
          obtain ⟨ad2, ea2, hx2⟩ := Kd.at_int (HR2.out _ HK.out) ((j : Int) - 1) (by have := HJ.out; omega) (by have := HJ.out; omega)
          cases ea2
          obtain ⟨ad3, ea3, hx3⟩ := Kd.at_int (HR2.out _ HK.out) (j : Int) (by omega) (by have := HJ.out; omega)
          obtain rfl : ad2 = ad3 := by injection ea3
          clear ea3
          rw [show ((j : Int) - 1).toNat = j - 1 by omega] at hx2
          rw [Int.toNat_natCast] at hx3
          generalize hA : rd l2 ((j : Int) - 1) = a at hq HPUT hx2
          generalize hB_ : rd l2 (j : Int) = c at hq HPUT hx3
          have HA := Aside0.mk hA
          have HB_ := Aside0.mk hB_
          have HQ := Aside0.mk hq
          obtain ⟨⟨⟨q1, q2⟩, ⟨q3, q4⟩⟩, ⟨q5, q6⟩⟩ := hq
          obtain ⟨gr, cr, hc1, hc2, hc3, hc4, hput⟩ := spec_l13Push.put HS.out c a q1 q2 q3 q4
          have HX := Aside0.mk hc1
          have HY := Aside0.mk hc2
          have HZ := Aside0.mk hc4
          have HP := Aside0.mk hput
          have p1 : decide (0 ≤ c) = true := decide_eq_true q1
          have p2 : (0 ≤ c) = True := eq_true q1
          have p3 : decide (c < (F.length : Int)) = true := decide_eq_true q2
          have p4 : (c < (F.length : Int)) = True := eq_true q2
          have p3' : decide (c < (l1.length : Int)) = true := decide_eq_true (by have := HFL.out; omega)
          have p4' : (c < (l1.length : Int)) = True := eq_true (by have := HFL.out; omega)
          have p5 : decide (0 ≤ a) = true := decide_eq_true q3
          have p6 : (0 ≤ a) = True := eq_true q3
          have p7 : decide (a < ((rd_L1 F c).length : Int)) = true := decide_eq_true q4
          have p8 : (a < ((rd_L1 F c).length : Int)) = True := eq_true q4
          have p9' : decide (a < (l1.length : Int)) = true := decide_eq_true (by have := HFL.out; omega)
          have p10' : (a < (l1.length : Int)) = True := eq_true (by have := HFL.out; omega)
          have p11 : decide (c < ((rd_L1 (spec_l13Push.one F a c b) a).length : Int)) = true := decide_eq_true q6
          have p12 : (c < ((rd_L1 (spec_l13Push.one F a c b) a).length : Int)) = True := eq_true q6
          clear hput q1 q2 q3 q4 q5 q6 hA hB_ hc4
          have HLO := Aside0.mk (show (spec_l13Push.one F a c b).length = F.length by unfold spec_l13Push.one; rw [List.length_set])
          have hup : wrap64 ((j : Int) + 1) = ((j + 1 : Nat) : Int) := by have := HJ.out; have := HM.out; unfold wrap64; omega
          have HUP := Aside0.mk hup
          clear hup
          (first | simp only [add_plain] at hc1 | skip)
          by_cases cb : rd (rd_L1 F c) a > b
          · have k1 : decide (rd (rd_L1 F c) a > b) = true := decide_eq_true cb
            have k2 : decide (b < rd (rd_L1 F c) a) = true := decide_eq_true cb
            have HONE := Aside0.mk (show spec_l13Push.one F a c b = F.set c.toNat ((rd_L1 F c).set a.toNat (wrap64 (rd (rd_L1 F c) a - b))) by unfold spec_l13Push.one spec_l13Push.back; rw [if_pos cb])
            have HTWO := Aside0.mk (show spec_l13Push.two F a c b = (spec_l13Push.one F a c b).set a.toNat ((rd_L1 (spec_l13Push.one F a c b) a).set c.toNat (wrap64 (rd (rd_L1 (spec_l13Push.one F a c b) a) c))) by unfold spec_l13Push.two spec_l13Push.back; rw [if_pos cb, Int.sub_self, show wrap64 0 = 0 by unfold wrap64; omega, Int.add_zero])
            clear cb
            go_wp2_with (first | ((with_reducible refine gate_store (t := 3) (p := 71) rfl ?_); refine store_event (t := 3) (p := 71) (v := ?vo_) (w1 := (wr.setCell ⟨gr, a.toNat, none⟩ (.int .i64 (wrap64 (rd (rd_L1 F c) a - b))))) ?hg ?ho ?hn ?hr ?_; (case ho => rfl); (case hg => rfl); (case hn => rfl); (case hr => first | (go_simp; done) | (go_simp; rfl)); intro w2 hw; have HS2 := Aside0.mk (show Kd.S (Kd.slice 3 (Kd.int .i64)) 31 w2 w0.heap.size P0_ (.slice (some ⟨g1, 0, none⟩) l1.length c1) (spec_l13Push.one F a c b) from by rw [hw, HONE.out]; exact HP.out _); have HB2 := Aside0.mk (show Below w0.heap.size w0 w2 from by rw [hw]; exact below_set HB.out HZ.out.2); have HK2 := Aside0.mk (show Kept w w2 P0_ from by rw [hw]; exact Kept.setCell HK.out (.inl HZ.out.1) _); obtain ⟨gs, cs, hd1, hd2, hd3, hd4, hput2⟩ := spec_l13Push.put HS2.out a c HQ.out.1.2.1 (by have := HQ.out.2.1; have := HLO.out; omega) HQ.out.1.1.1 HQ.out.2.2; (first | simp only [add_plain] at hd1 | skip); have HZ2 := Aside0.mk hd4; have HP2 := Aside0.mk hput2; clear hput2 hd4 hw hc1 hc2 hc3))
            generalize hw : (w2.setCell ⟨gs, c.toNat, none⟩ (.int .i64 (wrap64 (rd (rd_L1 (spec_l13Push.one F a c b) a) c)))) = w3
            have HS3 := Aside0.mk (show Kd.S (Kd.slice 3 (Kd.int .i64)) 31 w3 w0.heap.size P0_ (.slice (some ⟨g1, 0, none⟩) l1.length c1) (spec_l13Push.two F a c b) from by rw [← hw, HTWO.out]; exact HP2.out _)
            have HB3 := Aside0.mk (show Below w0.heap.size w0 w3 from by rw [← hw]; exact below_set HB2.out HZ2.out.2)
            have HK3 := Aside0.mk (show Kept w w3 P0_ from by rw [← hw]; exact Kept.setCell HK2.out (.inl HZ2.out.1) _)
            clear hw hd1 hd2 hd3
            go_roundg (m + 1)
            case measure => have := HJ.out; omega
            case rel => exact ⟨m, j + 1, spec_l13Push.two F a c b, by first | rfl | (rw [← HUP.out]), ⟨by omega, by have := HJ.out; omega, by omega⟩, ⟨by rw [HTWO.out, List.length_set]; have := HLO.out; have := HFL.out; omega, HPUT.out⟩, HS3, HB3, HK3⟩
          · have k1 : decide (rd (rd_L1 F c) a > b) = false := decide_eq_false cb
            have k2 : decide (b < rd (rd_L1 F c) a) = false := decide_eq_false cb
            have HONE := Aside0.mk (show spec_l13Push.one F a c b = F.set c.toNat ((rd_L1 F c).set a.toNat 0) by unfold spec_l13Push.one spec_l13Push.back; rw [if_neg cb, Int.sub_self, show wrap64 0 = 0 by unfold wrap64; omega])
            have HTWO := Aside0.mk (show spec_l13Push.two F a c b = (spec_l13Push.one F a c b).set a.toNat ((rd_L1 (spec_l13Push.one F a c b) a).set c.toNat (wrap64 (rd (rd_L1 (spec_l13Push.one F a c b) a) c + wrap64 (b - rd (rd_L1 F c) a)))) by unfold spec_l13Push.two spec_l13Push.back; rw [if_neg cb])
            clear cb
            go_wp2_with (first | ((with_reducible refine gate_store (t := 3) (p := 71) rfl ?_); refine store_event (t := 3) (p := 71) (v := ?vo_) (w1 := (wr.setCell ⟨gr, a.toNat, none⟩ (.int .i64 0))) ?hg ?ho ?hn ?hr ?_; (case ho => rfl); (case hg => rfl); (case hn => rfl); (case hr => first | (go_simp; done) | (go_simp; rfl)); intro w2 hw; have HS2 := Aside0.mk (show Kd.S (Kd.slice 3 (Kd.int .i64)) 31 w2 w0.heap.size P0_ (.slice (some ⟨g1, 0, none⟩) l1.length c1) (spec_l13Push.one F a c b) from by rw [hw, HONE.out]; exact HP.out _); have HB2 := Aside0.mk (show Below w0.heap.size w0 w2 from by rw [hw]; exact below_set HB.out HZ.out.2); have HK2 := Aside0.mk (show Kept w w2 P0_ from by rw [hw]; exact Kept.setCell HK.out (.inl HZ.out.1) _); obtain ⟨gs, cs, hd1, hd2, hd3, hd4, hput2⟩ := spec_l13Push.put HS2.out a c HQ.out.1.2.1 (by have := HQ.out.2.1; have := HLO.out; omega) HQ.out.1.1.1 HQ.out.2.2; (first | simp only [add_plain] at hd1 | skip); have HZ2 := Aside0.mk hd4; have HP2 := Aside0.mk hput2; clear hput2 hd4 hw hc1 hc2 hc3))
            generalize hw : (w2.setCell ⟨gs, c.toNat, none⟩ (.int .i64 (wrap64 (rd (rd_L1 (spec_l13Push.one F a c b) a) c + wrap64 (b - rd (rd_L1 F c) a))))) = w3
            have HS3 := Aside0.mk (show Kd.S (Kd.slice 3 (Kd.int .i64)) 31 w3 w0.heap.size P0_ (.slice (some ⟨g1, 0, none⟩) l1.length c1) (spec_l13Push.two F a c b) from by rw [← hw, HTWO.out]; exact HP2.out _)
            have HB3 := Aside0.mk (show Below w0.heap.size w0 w3 from by rw [← hw]; exact below_set HB2.out HZ2.out.2)
            have HK3 := Aside0.mk (show Kept w w3 P0_ from by rw [← hw]; exact Kept.setCell HK2.out (.inl HZ2.out.1) _)
            clear hw hd1 hd2 hd3
            go_roundg (m + 1)
            case measure => have := HJ.out; omega
            case rel => exact ⟨m, j + 1, spec_l13Push.two F a c b, by first | rfl | (rw [← HUP.out]), ⟨by omega, by have := HJ.out; omega, by omega⟩, ⟨by rw [HTWO.out, List.length_set]; have := HLO.out; have := HFL.out; omega, HPUT.out⟩, HS3, HB3, HK3⟩
    | succ m =>
      have hmu := HMU.out
      rw [spec_l13Push.by_] at hmu
      replace hmu := Option.bind_eq_some_iff.mp hmu
      obtain ⟨q, hq, hmu⟩ := hmu
      have HQ := Aside0.mk hq
      have HJ := Aside0.mk (show 1 ≤ i ∧ i + 1 + m = l2.length ∧ m + 1 < gk by have := HI.out; omega)
      clear hq HMU HI
      have HMU := Aside0.mk hmu
      clear hmu
      have d1 : decide ((i : Int) < (l2.length : Int)) = true := decide_eq_true (by have := HJ.out; omega)
      have d2 : ((i : Int) < (l2.length : Int)) = True := eq_true (by have := HJ.out; omega)
      have d3 : decide (i < l2.length) = true := decide_eq_true (by have := HJ.out; omega)
      have d4 : (i < l2.length) = True := eq_true (by have := HJ.out; omega)
      have d5 : decide (0 ≤ (i : Int)) = true := decide_eq_true (by omega)
      have d6 : (0 ≤ (i : Int)) = True := eq_true (by omega)
      have d7 : decide (0 ≤ (i : Int) - 1) = true := decide_eq_true (by have := HJ.out; omega)
      have d8 : (0 ≤ (i : Int) - 1) = True := eq_true (by have := HJ.out; omega)
      have d9 : decide ((i : Int) - 1 < (l2.length : Int)) = true := decide_eq_true (by have := HJ.out; omega)
      have d10 : ((i : Int) - 1 < (l2.length : Int)) = True := eq_true (by have := HJ.out; omega)
      have d11 : (1 ≤ (i : Int)) = True := eq_true (by have := HJ.out; omega)
      have d12 : decide (1 ≤ (i : Int)) = true := decide_eq_true (by have := HJ.out; omega)
      have e1 : IntKind.i64.wrap ((i : Int) - 1) = (i : Int) - 1 := IntWalk.i64_in _ (by have := HJ.out; have := HM.out; omega)
      obtain ⟨ad2, ea2, hx2⟩ := Kd.at_int (HR2.out _ HK.out) ((i : Int) - 1) (by have := HJ.out; omega) (by have := HJ.out; omega)
      cases ea2
      obtain ⟨ad3, ea3, hx3⟩ := Kd.at_int (HR2.out _ HK.out) (i : Int) (by omega) (by have := HJ.out; omega)
      obtain rfl : ad2 = ad3 := by injection ea3
      clear ea3
      rw [show ((i : Int) - 1).toNat = i - 1 by omega] at hx2
      rw [Int.toNat_natCast] at hx3
      have hup : wrap64 ((i : Int) + 1) = ((i + 1 : Nat) : Int) := by have := HJ.out; have := HM.out; unfold wrap64; omega
      have HUP := Aside0.mk hup
      clear hup
      by_cases cq : q < b
      · have c1 : decide (q < b) = true := decide_eq_true cq
        have HMU' := Aside0.mk (show spec_l13Push.by_ l0 l1 l2 m (i + 1) q = some mu' by have := HMU.out; rw [if_pos cq] at this; exact this)
        clear cq HMU
        go_wp2
        go_quiet ((go_at_call 47; (with_reducible refine (spec_l13Room.calls _ _ l0 _ _ l1 (rd l2 ((i : Int) - 1)) (rd l2 (i : Int)) q _ ?side1 ?side2 ?side3 ?side4 HQ.out).mono ?_); (case side1 => repeat (first | exact (Kd.C_below HR0.out HB.out) | (with_reducible refine Kd.C_drewN ?_ _) | (with_reducible refine Kd.C_drew ?_))); (case side2 => exact HC0.out); (case side3 => repeat (first | exact (Kd.S_reads' HS.out).2.2 | (with_reducible refine Kd.C_drewN ?_ _) | (with_reducible refine Kd.C_drew ?_))); (case side4 => exact HC1.out); rintro e w' ⟨rfl, ⟨nd, rfl⟩⟩; (try first | exact ⟨rfl, _, World.drewN_drewN _ _ _⟩ | exact ⟨rfl, _, Eq.trans (World.drewN_drewN _ _ _) (congrArg (World.drewN _) (Nat.add_assoc _ _ _))⟩)))
        go_wp2
        go_roundg (m + 1)
        case measure => have := HJ.out; omega
        case rel => exact ⟨m, i + 1, q, rfl, by first | rfl | (rw [← HUP.out]), ⟨by omega, by have := HJ.out; omega, by omega⟩, HMU', ⟨by (with_reducible repeat (first | apply Kd.S_drewN | apply Kd.S_drew)); exact HS.out⟩, ⟨by repeat (first | exact HB.out | apply pw_below_drewN | apply below_drew1)⟩, ⟨by repeat (first | exact HK.out | apply Kept.drewN | apply Kept.drew)⟩⟩
      · have c1 : decide (q < b) = false := decide_eq_false cq
        have HMU' := Aside0.mk (show spec_l13Push.by_ l0 l1 l2 m (i + 1) b = some mu' by have := HMU.out; rw [if_neg cq] at this; exact this)
        clear cq HMU
        go_wp2
        go_quiet ((go_at_call 47; (with_reducible refine (spec_l13Room.calls _ _ l0 _ _ l1 (rd l2 ((i : Int) - 1)) (rd l2 (i : Int)) q _ ?side1 ?side2 ?side3 ?side4 HQ.out).mono ?_); (case side1 => repeat (first | exact (Kd.C_below HR0.out HB.out) | (with_reducible refine Kd.C_drewN ?_ _) | (with_reducible refine Kd.C_drew ?_))); (case side2 => exact HC0.out); (case side3 => repeat (first | exact (Kd.S_reads' HS.out).2.2 | (with_reducible refine Kd.C_drewN ?_ _) | (with_reducible refine Kd.C_drew ?_))); (case side4 => exact HC1.out); rintro e w' ⟨rfl, ⟨nd, rfl⟩⟩; (try first | exact ⟨rfl, _, World.drewN_drewN _ _ _⟩ | exact ⟨rfl, _, Eq.trans (World.drewN_drewN _ _ _) (congrArg (World.drewN _) (Nat.add_assoc _ _ _))⟩)))
        go_wp2
        go_roundg (m + 1)
        case measure => have := HJ.out; omega
        case rel => exact ⟨m, i + 1, b, rfl, by first | rfl | (rw [← HUP.out]), ⟨by omega, by have := HJ.out; omega, by omega⟩, HMU', ⟨by (with_reducible repeat (first | apply Kd.S_drewN | apply Kd.S_drew)); exact HS.out⟩, ⟨by repeat (first | exact HB.out | apply pw_below_drewN | apply below_drew1)⟩, ⟨by repeat (first | exact HK.out | apply Kept.drewN | apply Kept.drew)⟩⟩

end Go.Proofs.Ytdbepjnapjjlcaa.GLCutOf
