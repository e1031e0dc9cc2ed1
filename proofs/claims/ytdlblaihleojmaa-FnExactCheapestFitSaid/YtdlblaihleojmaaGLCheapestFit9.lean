-- Written by a program of this session (gprint.py), over the kit's print: not trusted: Lean checks it.
import Derived.Test.YtdlblaihleojmaaGLCheapestFit0
import Derived.Test.YtdlblaihleojmaaGLCheapestFit1
import Derived.Test.YtdlblaihleojmaaGLCheapestFit2
import Derived.Test.YtdlblaihleojmaaGLCheapestFit4
import Derived.Test.YtdlblaihleojmaaGLCheapestFit8
namespace Go.Proofs.Ytdlblaihleojmaa.GLCheapestFit
open Go.RowKit Go.Proofs.YtdlblaihleojmaaW.PrintWords Go.Proofs.YtdlblaihleojmaaW.PrintLast Go.Proofs.YtdlblaihleojmaaW.PrintMore Go.Proofs.YtdlblaihleojmaaW.PrintOwn
attribute [local go_sem] max2_int min2_int max_two min_two max_three min_three max_four min_four   -- for this text's walks alone
set_option linter.unusedVariables false
set_option linter.unusedSimpArgs false

/-! ### laws_heldIntS: function 37 -/
def laws_heldIntS.l0 : Nat → List Int → Int → Int → Option (Int)
  | 0, _, _, _ => none
  | k + 1, x0, x1, x5 => if x5 < (x0.length : Int) then (if 0 ≤ x5 then (if (rd x0 x5) = x1 then (laws_heldIntS.l0 k x0 (wrap64 (x1 + 1)) (wrap64 (x5 + 1))) else (some (-1))) else (none)) else (some x1)
def laws_heldIntS.f (k : Nat) (l0 : List Int) (a1 : Int) : Option (Int) := laws_heldIntS.l0 k l0 a1 0
theorem laws_heldIntS.mono_l : ∀ k, (∀ y0 y1 y2, LeO (laws_heldIntS.l0 k y0 y1 y2) (laws_heldIntS.l0 (k + 1) y0 y1 y2))
  | 0 => fun _ _ _ r h => by simp [laws_heldIntS.l0] at h
  | k + 1 => by
    have ih0 := laws_heldIntS.mono_l k
    · intro y0 y1 y2
      unfold laws_heldIntS.l0
      repeat' first
      | (with_reducible exact ih0 _ _ _)
      | (with_reducible exact LeO.refl _)
      | (with_reducible exact LeO.none _)
      | (with_reducible refine LeO.ite ?_ ?_)
      | (with_reducible refine LeO.bind ?_ (fun _ => ?_))
      | exact ih0 _ _ _
      | exact LeO.none _
      | refine LeO.ite ?_ ?_
      | refine LeO.bind ?_ (fun _ => ?_)
theorem laws_heldIntS.mono : ∀ a0 a1 k, LeO (laws_heldIntS.f k a0 a1) (laws_heldIntS.f (k + 1) a0 a1) := by
  intro a0 a1 k
  have ih0 := laws_heldIntS.mono_l k
  unfold laws_heldIntS.f
  repeat' first
      | (with_reducible exact ih0 _ _ _)
      | (with_reducible exact LeO.refl _)
      | (with_reducible exact LeO.none _)
      | (with_reducible refine LeO.ite ?_ ?_)
      | (with_reducible refine LeO.bind ?_ (fun _ => ?_))
      | exact ih0 _ _ _
      | exact LeO.none _
      | refine LeO.ite ?_ ?_
      | refine LeO.bind ?_ (fun _ => ?_)
set_option maxHeartbeats 8000000 in
set_option maxRecDepth 100000 in
theorem laws_heldIntS.calls (k : Nat) (A0 : Option Addr) (c0 : Nat) (l0 : List Int) (a1 : Int) (r : Int) (w : World) (hr0 : Kd.C (Kd.int .i64) w A0 l0.length l0) (hc0 : l0.length ≤ c0) (h : laws_heldIntS.f k l0 a1 = some r) :
    Calls Try.prog 37 #[.slice A0 l0.length c0, .int .i64 a1] w fun e w' => e = .returned (.int .i64 r) ∧ Drawn0 w w' := by
  have HR0 := Aside0.mk hr0
  have HC0 := Aside0.mk hc0
  clear hr0 hc0
  have H : (laws_heldIntS.l0 k l0 a1 0) = some r := h
  clear h
  have H' := Aside0.mk H
  clear H
  go_enter Try.func37, Try.ntmps37
  go_wp2
  go_loopg [1, 5] k (fun kq v1 v5 w' => ∃ (x1_1 : Int) (x5_1 : Int), v1 = .int .i64 x1_1 ∧ v5 = .int .i64 x5_1 ∧ Aside0 (laws_heldIntS.l0 kq l0 x1_1 x5_1 = some r) ∧ Aside0 (kq ≤ k) ∧ Drawn0 w w')
  case atStart => exact ⟨(a1), (0), (by first | rfl | (simp; done) | (simp [*]; done)), (by first | rfl | (simp; done) | (simp [*]; done)), H', ⟨Nat.le_refl _⟩, by repeat (first | exact Drawn0.refl _ | apply Drawn0.step)⟩
  case round =>
    clear H'
    try clear p2
    obtain ⟨x1_1, x5_1, rfl, rfl, HA, HK1, ⟨m1, rfl⟩⟩ := hrel
    cases gk with
    | zero => exact absurd HA.out (by simp [laws_heldIntS.l0])
    | succ k1 =>
      have H := HA.out
      clear HA
      simp only [laws_heldIntS.l0] at H
      by_cases c3 : x5_1 < (l0.length : Int)
      · rw [if_pos c3] at H
        have c3b0 : decide (x5_1 < (l0.length : Int)) = true := decide_eq_true c3
        clear c3
        by_cases c4 : 0 ≤ x5_1
        · rw [if_pos c4] at H
          have c4b0 : decide (0 ≤ x5_1) = true := decide_eq_true c4
          clear c4
          by_cases c5 : (rd l0 x5_1) = x1_1
          · rw [if_pos c5] at H
            have c5b0 : ((rd l0 x5_1) == x1_1) = true := beq_iff_eq.mpr c5
            have c5b1 : ((rd l0 x5_1) != x1_1) = false := bne_eq_false_iff_eq.mpr c5
            clear c5
            have H' := Aside0.mk H
            clear H
            have p232 : 0 ≤ (x5_1 : Int) := of_decide_eq_true (by first | (with_reducible assumption) | assumption)
            have q232 : x5_1 < (l0.length : Int) := of_decide_eq_true (by first | (with_reducible assumption) | assumption)
            obtain ⟨ad232, e232, hx232_0⟩ := Kd.at_int HR0.out x5_1 p232 q232
            cases e232
            replace p232 := eq_true p232
            replace q232 := eq_true q232
            go_wp2
            go_roundg k1
            case measure => have := HK1.out; omega
            case rel => exact ⟨(wrap64 (x1_1 + 1)), (wrap64 (x5_1 + 1)), (by first | rfl | (simp; done) | (simp [*]; done)), (by first | rfl | (simp; done) | (simp [*]; done)), H', ⟨by have := HK1.out; omega⟩, by repeat (first | exact Drawn0.refl _ | apply Drawn0.step)⟩
          · rw [if_neg c5] at H
            have c5b0 : ((rd l0 x5_1) == x1_1) = false := beq_eq_false_iff_ne.mpr c5
            have c5b1 : ((rd l0 x5_1) != x1_1) = true := bne_iff_ne.mpr c5
            obtain rfl := Option.some.inj H
            have p232 : 0 ≤ (x5_1 : Int) := of_decide_eq_true (by first | (with_reducible assumption) | assumption)
            have q232 : x5_1 < (l0.length : Int) := of_decide_eq_true (by first | (with_reducible assumption) | assumption)
            obtain ⟨ad232, e232, hx232_0⟩ := Kd.at_int HR0.out x5_1 p232 q232
            cases e232
            replace p232 := eq_true p232
            replace q232 := eq_true q232
            go_wp2
            go_ret
            exact ⟨by first | rfl | (simp; done) | (simp [*]; done), by repeat (first | exact Drawn0.refl _ | apply Drawn0.step)⟩
        · rw [if_neg c4] at H
          exact absurd H (by simp)
      · rw [if_neg c3] at H
        have c3b0 : decide (x5_1 < (l0.length : Int)) = false := decide_eq_false c3
        clear c3
        obtain rfl := Option.some.inj H
        go_wp2
        go_ret
        exact ⟨by first | rfl | (simp; done) | (simp [*]; done), by repeat (first | exact Drawn0.refl _ | apply Drawn0.step)⟩

/-! ### laws_heldPrices: function 38 -/
def laws_heldPrices.f (k : Nat) (l0_0 : List Int) (l0_1 : List Int) (a1 : Int) : Option (Int) := (laws_heldIntS.f k l0_0 a1).bind fun t234 => (if t234 < 0 then (some (-1)) else ((laws_heldIntS.f k l0_1 t234).bind fun t235 => (if t235 < 0 then (some (-1)) else (some t235))))
theorem laws_heldPrices.mono : ∀ a0 a1 a2 k, LeO (laws_heldPrices.f k a0 a1 a2) (laws_heldPrices.f (k + 1) a0 a1 a2) := by
  intro a0 a1 a2 k
  unfold laws_heldPrices.f
  repeat' first
      | (with_reducible exact laws_heldIntS.mono _ _ _)
      | (with_reducible exact LeO.refl _)
      | (with_reducible exact LeO.none _)
      | (with_reducible refine LeO.ite ?_ ?_)
      | (with_reducible refine LeO.bind ?_ (fun _ => ?_))
      | exact laws_heldIntS.mono _ _ _
      | exact LeO.none _
      | refine LeO.ite ?_ ?_
      | refine LeO.bind ?_ (fun _ => ?_)
set_option maxHeartbeats 8000000 in
set_option maxRecDepth 100000 in
theorem laws_heldPrices.calls (k : Nat) (A0_0 : Option Addr) (c0_0 : Nat) (l0_0 : List Int) (A0_1 : Option Addr) (c0_1 : Nat) (l0_1 : List Int) (a1 : Int) (r : Int) (w : World) (hr0_0 : Kd.C (Kd.int .i64) w A0_0 l0_0.length l0_0) (hc0_0 : l0_0.length ≤ c0_0) (hr0_1 : Kd.C (Kd.int .i64) w A0_1 l0_1.length l0_1) (hc0_1 : l0_1.length ≤ c0_1) (h : laws_heldPrices.f k l0_0 l0_1 a1 = some r) :
    Calls Try.prog 38 #[.agg #[.slice A0_0 l0_0.length c0_0, .slice A0_1 l0_1.length c0_1], .int .i64 a1] w fun e w' => e = .returned (.int .i64 r) ∧ Below w.heap.size w w' := by
  have hu33 := Try.underlying33
  have HR0_0 := Aside0.mk hr0_0
  have HC0_0 := Aside0.mk hc0_0
  clear hr0_0 hc0_0
  have HR0_1 := Aside0.mk hr0_1
  have HC0_1 := Aside0.mk hc0_1
  clear hr0_1 hc0_1
  have HB := Aside0.mk (Below.refl w.heap.size w)
  have H : ((laws_heldIntS.f k l0_0 a1).bind fun t234 => (if t234 < 0 then (some (-1)) else ((laws_heldIntS.f k l0_1 t234).bind fun t235 => (if t235 < 0 then (some (-1)) else (some t235))))) = some r := h
  clear h
  replace H := Option.bind_eq_some_iff.mp H
  obtain ⟨t234, A30, H⟩ := H
  replace H : (if t234 < 0 then (some (-1)) else ((laws_heldIntS.f k l0_1 t234).bind fun t235 => (if t235 < 0 then (some (-1)) else (some t235)))) = some r := H
  have A3 := Aside0.mk A30
  clear A30
  by_cases c4 : t234 < 0
  · rw [if_pos c4] at H
    have c4b0 : decide (t234 < 0) = true := decide_eq_true c4
    clear c4
    obtain rfl := Option.some.inj H
    go_enter Try.func38, Try.ntmps38
    go_wp2_with (first | ((with_reducible refine gate_dst (N := 2) rfl ?_); refine box_event ?hg (N := 2) ?hd (cs := #[.slice A0_0 l0_0.length c0_0, .slice A0_1 l0_1.length c0_1]) (t := 33) ?hr ?_; (case hd => rfl); (case hg => rfl); (case hr => first | (go_simp; done) | (go_simp; rfl)); intro gb233 hg w5 hbox hb; have n0_ := Aside0.mk (below_step (by repeat (first | (with_reducible first | exact HB.out | apply below_alloc | apply pw_below_drewN | apply below_drew1) | exact HB.out)) hb); have n1_ := Aside0.mk (hbox); have n2_ := Aside0.mk ((by rw [hg]; exact (below_size (by repeat (first | (with_reducible first | exact HB.out | apply below_alloc | apply pw_below_drewN | apply below_drew1) | exact HB.out))) : w.heap.size ≤ gb233)); have n3_ := Aside0.mk ((by rw [hg]; exact (below_size (by repeat (first | (with_reducible first | exact HB.out | apply below_alloc | apply pw_below_drewN | apply below_drew1) | exact HB.out))) : w.heap.size ≤ gb233)); clear HB; have HB := n0_; have BK233 := n1_; have GW233 := n2_; have GE233 := n3_; clear n0_ n1_ n2_ n3_; clear hb hbox hg; have hcz6_0 : w5.cell? ⟨gb233, 0, none⟩ = some (.slice A0_0 l0_0.length c0_0) := (blk_cell BK233.out 0).trans rfl; have hcz6_1 : w5.cell? ⟨gb233, 1, none⟩ = some (.slice A0_1 l0_1.length c0_1) := (blk_cell BK233.out 1).trans rfl; have hfz6_0 := blk_frozen BK233.out 0; have hfz6_1 := blk_frozen BK233.out 1) | ((with_reducible refine gate_callee (f := 37) rfl ?_); refine goesL_ (some 8) rfl rfl Try.func37 (by kernel_rfl) rfl #[.slice A0_0 l0_0.length c0_0, .int .i64 a1] rfl (by (try simp only [List.map_toArray, List.map_cons, List.map_nil]); first | done | rfl | (simp only [List.length_drop, List.length_take]; rfl)) ?_; (with_reducible refine (laws_heldIntS.calls k _ _ l0_0 a1 t234 _ ?side1 ?side2 A3.out).mono ?_); (case side1 => repeat (first | exact (Kd.C_below HR0_0.out HB.out) | (with_reducible refine Kd.C_alloc ?_ _) | (with_reducible refine Kd.C_drewN ?_ _) | (with_reducible refine Kd.C_drew ?_))); (case side2 => exact HC0_0.out); rintro e w' ⟨rfl, ⟨nd, rfl⟩⟩; refine ⟨_, rfl, ?_⟩))
    go_ret
    exact ⟨by first | rfl | (simp [errW_none, errW_some] <;> rfl) | (simp [*, errW_none, errW_some] <;> rfl), by repeat (first | (with_reducible first | exact HB.out | apply below_alloc | apply pw_below_drewN | apply below_drew1 | refine below_set ?_ GE233.out) | exact HB.out)⟩
  · rw [if_neg c4] at H
    have c4b0 : decide (t234 < 0) = false := decide_eq_false c4
    clear c4
    replace H := Option.bind_eq_some_iff.mp H
    obtain ⟨t235, A70, H⟩ := H
    replace H : (if t235 < 0 then (some (-1)) else (some t235)) = some r := H
    have A7 := Aside0.mk A70
    clear A70
    by_cases c8 : t235 < 0
    · rw [if_pos c8] at H
      have c8b0 : decide (t235 < 0) = true := decide_eq_true c8
      clear c8
      obtain rfl := Option.some.inj H
      go_enter Try.func38, Try.ntmps38
      go_wp2_with (first | ((with_reducible refine gate_dst (N := 2) rfl ?_); refine box_event ?hg (N := 2) ?hd (cs := #[.slice A0_0 l0_0.length c0_0, .slice A0_1 l0_1.length c0_1]) (t := 33) ?hr ?_; (case hd => rfl); (case hg => rfl); (case hr => first | (go_simp; done) | (go_simp; rfl)); intro gb233 hg w9 hbox hb; have n0_ := Aside0.mk (below_step (by repeat (first | (with_reducible first | exact HB.out | apply below_alloc | apply pw_below_drewN | apply below_drew1) | exact HB.out)) hb); have n1_ := Aside0.mk (hbox); have n2_ := Aside0.mk ((by rw [hg]; exact (below_size (by repeat (first | (with_reducible first | exact HB.out | apply below_alloc | apply pw_below_drewN | apply below_drew1) | exact HB.out))) : w.heap.size ≤ gb233)); have n3_ := Aside0.mk ((by rw [hg]; exact (below_size (by repeat (first | (with_reducible first | exact HB.out | apply below_alloc | apply pw_below_drewN | apply below_drew1) | exact HB.out))) : w.heap.size ≤ gb233)); clear HB; have HB := n0_; have BK233 := n1_; have GW233 := n2_; have GE233 := n3_; clear n0_ n1_ n2_ n3_; clear hb hbox hg; have hcz10_0 : w9.cell? ⟨gb233, 0, none⟩ = some (.slice A0_0 l0_0.length c0_0) := (blk_cell BK233.out 0).trans rfl; have hcz10_1 : w9.cell? ⟨gb233, 1, none⟩ = some (.slice A0_1 l0_1.length c0_1) := (blk_cell BK233.out 1).trans rfl; have hfz10_0 := blk_frozen BK233.out 0; have hfz10_1 := blk_frozen BK233.out 1) | ((with_reducible refine gate_callee (f := 37) rfl ?_); refine goesL_ (some 8) rfl rfl Try.func37 (by kernel_rfl) rfl #[.slice A0_0 l0_0.length c0_0, .int .i64 a1] rfl (by (try simp only [List.map_toArray, List.map_cons, List.map_nil]); first | done | rfl | (simp only [List.length_drop, List.length_take]; rfl)) ?_; (with_reducible refine (laws_heldIntS.calls k _ _ l0_0 a1 t234 _ ?side1 ?side2 A3.out).mono ?_); (case side1 => repeat (first | exact (Kd.C_below HR0_0.out HB.out) | (with_reducible refine Kd.C_alloc ?_ _) | (with_reducible refine Kd.C_drewN ?_ _) | (with_reducible refine Kd.C_drew ?_))); (case side2 => exact HC0_0.out); rintro e w' ⟨rfl, ⟨nd, rfl⟩⟩; refine ⟨_, rfl, ?_⟩) | ((with_reducible refine gate_callee (f := 37) rfl ?_); refine goesL_ (some 14) rfl rfl Try.func37 (by kernel_rfl) rfl #[.slice A0_1 l0_1.length c0_1, .int .i64 t234] rfl (by (try simp only [List.map_toArray, List.map_cons, List.map_nil]); first | done | rfl | (simp only [List.length_drop, List.length_take]; rfl)) ?_; (with_reducible refine (laws_heldIntS.calls k _ _ l0_1 t234 t235 _ ?side1 ?side2 A7.out).mono ?_); (case side1 => repeat (first | exact (Kd.C_below HR0_1.out (by repeat (first | (with_reducible first | exact HB.out | apply below_alloc | apply pw_below_drewN | apply below_drew1 | refine below_set ?_ GE233.out) | exact HB.out))) | (with_reducible refine Kd.C_alloc ?_ _) | (with_reducible refine Kd.C_drewN ?_ _) | (with_reducible refine Kd.C_drew ?_))); (case side2 => exact HC0_1.out); rintro e w' ⟨rfl, ⟨nd, rfl⟩⟩; refine ⟨_, rfl, ?_⟩))
      go_ret
      exact ⟨by first | rfl | (simp [errW_none, errW_some] <;> rfl) | (simp [*, errW_none, errW_some] <;> rfl), by repeat (first | (with_reducible first | exact HB.out | apply below_alloc | apply pw_below_drewN | apply below_drew1 | refine below_set ?_ GE233.out) | exact HB.out)⟩
    · rw [if_neg c8] at H
      have c8b0 : decide (t235 < 0) = false := decide_eq_false c8
      clear c8
      obtain rfl := Option.some.inj H
      go_enter Try.func38, Try.ntmps38
      go_wp2_with (first | ((with_reducible refine gate_dst (N := 2) rfl ?_); refine box_event ?hg (N := 2) ?hd (cs := #[.slice A0_0 l0_0.length c0_0, .slice A0_1 l0_1.length c0_1]) (t := 33) ?hr ?_; (case hd => rfl); (case hg => rfl); (case hr => first | (go_simp; done) | (go_simp; rfl)); intro gb233 hg w11 hbox hb; have n0_ := Aside0.mk (below_step (by repeat (first | (with_reducible first | exact HB.out | apply below_alloc | apply pw_below_drewN | apply below_drew1) | exact HB.out)) hb); have n1_ := Aside0.mk (hbox); have n2_ := Aside0.mk ((by rw [hg]; exact (below_size (by repeat (first | (with_reducible first | exact HB.out | apply below_alloc | apply pw_below_drewN | apply below_drew1) | exact HB.out))) : w.heap.size ≤ gb233)); have n3_ := Aside0.mk ((by rw [hg]; exact (below_size (by repeat (first | (with_reducible first | exact HB.out | apply below_alloc | apply pw_below_drewN | apply below_drew1) | exact HB.out))) : w.heap.size ≤ gb233)); clear HB; have HB := n0_; have BK233 := n1_; have GW233 := n2_; have GE233 := n3_; clear n0_ n1_ n2_ n3_; clear hb hbox hg; have hcz12_0 : w11.cell? ⟨gb233, 0, none⟩ = some (.slice A0_0 l0_0.length c0_0) := (blk_cell BK233.out 0).trans rfl; have hcz12_1 : w11.cell? ⟨gb233, 1, none⟩ = some (.slice A0_1 l0_1.length c0_1) := (blk_cell BK233.out 1).trans rfl; have hfz12_0 := blk_frozen BK233.out 0; have hfz12_1 := blk_frozen BK233.out 1) | ((with_reducible refine gate_callee (f := 37) rfl ?_); refine goesL_ (some 8) rfl rfl Try.func37 (by kernel_rfl) rfl #[.slice A0_0 l0_0.length c0_0, .int .i64 a1] rfl (by (try simp only [List.map_toArray, List.map_cons, List.map_nil]); first | done | rfl | (simp only [List.length_drop, List.length_take]; rfl)) ?_; (with_reducible refine (laws_heldIntS.calls k _ _ l0_0 a1 t234 _ ?side1 ?side2 A3.out).mono ?_); (case side1 => repeat (first | exact (Kd.C_below HR0_0.out HB.out) | (with_reducible refine Kd.C_alloc ?_ _) | (with_reducible refine Kd.C_drewN ?_ _) | (with_reducible refine Kd.C_drew ?_))); (case side2 => exact HC0_0.out); rintro e w' ⟨rfl, ⟨nd, rfl⟩⟩; refine ⟨_, rfl, ?_⟩) | ((with_reducible refine gate_callee (f := 37) rfl ?_); refine goesL_ (some 14) rfl rfl Try.func37 (by kernel_rfl) rfl #[.slice A0_1 l0_1.length c0_1, .int .i64 t234] rfl (by (try simp only [List.map_toArray, List.map_cons, List.map_nil]); first | done | rfl | (simp only [List.length_drop, List.length_take]; rfl)) ?_; (with_reducible refine (laws_heldIntS.calls k _ _ l0_1 t234 t235 _ ?side1 ?side2 A7.out).mono ?_); (case side1 => repeat (first | exact (Kd.C_below HR0_1.out (by repeat (first | (with_reducible first | exact HB.out | apply below_alloc | apply pw_below_drewN | apply below_drew1 | refine below_set ?_ GE233.out) | exact HB.out))) | (with_reducible refine Kd.C_alloc ?_ _) | (with_reducible refine Kd.C_drewN ?_ _) | (with_reducible refine Kd.C_drew ?_))); (case side2 => exact HC0_1.out); rintro e w' ⟨rfl, ⟨nd, rfl⟩⟩; refine ⟨_, rfl, ?_⟩))
      go_ret
      exact ⟨by first | rfl | (simp [errW_none, errW_some] <;> rfl) | (simp [*, errW_none, errW_some] <;> rfl), by repeat (first | (with_reducible first | exact HB.out | apply below_alloc | apply pw_below_drewN | apply below_drew1 | refine below_set ?_ GE233.out) | exact HB.out)⟩

/-! ### laws_FnExactCheapestFit: function 8 -/
def laws_FnExactCheapestFit.f (k : Nat) (l0 : List (List Int)) : Option (Bool) := (laws_szIntSS.f k l0 1048576).bind fun t1 => (if t1 < 0 then some true else ((laws_toIntSS.f k l0).bind fun x9 => ((spec_CheapestFit.f k x9).bind fun p => match p with | (x28, x29, x30, x31) => (if impl_CheapestFit.f k x9 = some (x28, x29, x30, x31) then (if laws_eqIntS.f k x28 x28 = some true then (if laws_eqPrices.f k x29 x30 x29 x30 = some true then (if laws_eqIntSS.f k x9 x9 = some true then ((laws_markIntSS.g x9 1).bind fun p => match p with | (t63, x64) => (if 0 ≤ t63 then ((laws_markIntS.f k x28 1).bind fun p => match p with | (t65, x66) => ((laws_markPrices.f k x29 x30 t65).bind fun p => match p with | (t67, x68, x69) => (if laws_heldIntS.f k x66 1 = some t65 then (if 0 ≤ t65 then (if laws_heldPrices.f k x68 x69 t65 = some t67 then (if 0 ≤ t67 then (some true) else none) else none) else none) else none))) else none)) else none) else none) else none) else none))))
set_option maxHeartbeats 16000000 in
set_option maxRecDepth 100000 in
theorem laws_FnExactCheapestFit.calls (k : Nat) (A0 : Option Addr) (c0 : Nat) (l0 : List (List Int)) (r : Bool) (w : World) (hr0 : Kd.C (Kd.slice 3 (Kd.int .i64)) w A0 l0.length l0) (hc0 : l0.length ≤ c0) (h : laws_FnExactCheapestFit.f k l0 = some r) :
    Calls Try.prog 8 #[.slice A0 l0.length c0] w fun e w' => e = .returned (.bool r) ∧ Below w.heap.size w w' := by
  have HR0 := Aside0.mk hr0
  have HL0 := Aside0.mk hc0
  clear hr0 hc0
  unfold laws_FnExactCheapestFit.f at h
  replace h := Option.bind_eq_some_iff.mp h
  obtain ⟨t1, H950, h⟩ := h
  have H95 := Aside0.mk H950
  clear H950
  try dsimp only at h
  by_cases c96 : t1 < 0
  · rw [if_pos c96] at h
    obtain rfl := Option.some.inj h
    clear h
    have d1 : decide (t1 < 0) = true := decide_eq_true c96
    clear c96
    go_enter Try.func8, Try.ntmps8
    have HB := Aside0.mk (Below.refl w.heap.size w)
    have HN := Aside0.mk (Nat.le_refl w.heap.size)
    go_wp2_with fail
    go_at_call 11
    refine (laws_szIntSS.calls k A0 c0 l0 1048576 t1 _ (Kd.C_below HR0.out (by repeat (first | exact HB.out | apply pw_below_drewN | apply below_drew1))) HL0.out H95.out).mono ?_
    rintro e w_97 ⟨rfl, ⟨nd98, rfl⟩⟩
    go_wp2_with fail
    go_ret
    exact ⟨rfl, (by repeat (first | exact HB.out | apply pw_below_drewN | apply below_drew1))⟩
  rw [if_neg c96] at h
  have d99 : decide (t1 < 0) = false := decide_eq_false c96
  clear c96
  replace h := Option.bind_eq_some_iff.mp h
  obtain ⟨x9, H1000, h⟩ := h
  have H100 := Aside0.mk H1000
  clear H1000
  try dsimp only at h
  replace h := Option.bind_eq_some_iff.mp h
  obtain ⟨⟨x28, x29, x30, x31⟩, H1010, h⟩ := h
  have H101 := Aside0.mk H1010
  clear H1010
  try dsimp only at h
  obtain ⟨H1020, h⟩ := need_of h
  have H102 := Aside0.mk H1020
  clear H1020
  obtain ⟨H1030, h⟩ := need_of h
  have H103 := Aside0.mk H1030
  clear H1030
  obtain ⟨H1040, h⟩ := need_of h
  have H104 := Aside0.mk H1040
  clear H1040
  obtain ⟨H1050, h⟩ := need_of h
  have H105 := Aside0.mk H1050
  clear H1050
  replace h := Option.bind_eq_some_iff.mp h
  obtain ⟨⟨t63, x64⟩, H1060, h⟩ := h
  have H106 := Aside0.mk H1060
  clear H1060
  try dsimp only at h
  obtain ⟨H1070, h⟩ := need_of h
  have H107 := Aside0.mk H1070
  clear H1070
  replace h := Option.bind_eq_some_iff.mp h
  obtain ⟨⟨t65, x66⟩, H1080, h⟩ := h
  have H108 := Aside0.mk H1080
  clear H1080
  try dsimp only at h
  replace h := Option.bind_eq_some_iff.mp h
  obtain ⟨⟨t67, x68, x69⟩, H1090, h⟩ := h
  have H109 := Aside0.mk H1090
  clear H1090
  try dsimp only at h
  obtain ⟨H1100, h⟩ := need_of h
  have H110 := Aside0.mk H1100
  clear H1100
  obtain ⟨H1110, h⟩ := need_of h
  have H111 := Aside0.mk H1110
  clear H1110
  obtain ⟨H1120, h⟩ := need_of h
  have H112 := Aside0.mk H1120
  clear H1120
  obtain ⟨H1130, h⟩ := need_of h
  have H113 := Aside0.mk H1130
  clear H1130
  obtain rfl := Option.some.inj h
  clear h
  go_enter Try.func8, Try.ntmps8
  have HB := Aside0.mk (Below.refl w.heap.size w)
  have HN := Aside0.mk (Nat.le_refl w.heap.size)
  go_wp2_with fail
  go_at_call 11
  refine (laws_szIntSS.calls k A0 c0 l0 1048576 t1 _ (Kd.C_below HR0.out (by repeat (first | exact HB.out | apply pw_below_drewN | apply below_drew1))) HL0.out H95.out).mono ?_
  rintro e w_114 ⟨rfl, ⟨nd115, rfl⟩⟩
  go_wp2_with fail
  go_at_call 13
  refine (laws_toIntSS.calls k A0 c0 l0 x9 _ (Kd.C_below HR0.out (by repeat (first | exact HB.out | apply pw_below_drewN | apply below_drew1))) HL0.out H100.out).mono ?_
  rintro e w1 ⟨v5, rfl, hF6, hb⟩
  have HB2 := Aside0.mk (below_next (N := w.heap.size) (by repeat (first | exact HB.out | apply pw_below_drewN | apply below_drew1)) (by exact HN.out) (by omega) hb)
  obtain ⟨lo116, hi117, ho, hg⟩ := fresh_pts (N := w.heap.size) hb (by exact HN.out)
  have O118 := Aside0.mk (show w.heap.size ≤ lo116 ∧ lo116 ≤ hi117 from ⟨ho.1, ho.2.1⟩)
  have hF6b := S_in hF6 hg (B := w.heap.size) (by have := O118.out; omega)
  obtain ⟨A3, c4, rfl, hle, hC⟩ := Kd.S_reads hF6b
  have HC7 := Aside0.mk hC
  have HL8 := Aside0.mk hle
  clear hle hC
  have F6 := Aside0.mk (show Kd.S (Kd.slice 3 (Kd.int .i64)) 27 w1 w.heap.size (fun k_ => (lo116 ≤ k_ ∧ k_ < hi117) ∧ True) (.slice A3 x9.length c4) x9 from hF6b)
  clear hF6 hF6b
  replace HN := Aside0.mk (show hi117 ≤ w1.heap.size from ho.2.2)
  clear ho hg
  replace HB := HB2
  clear HB2 hb
  go_wp2_with fail
  go_at_call 33
  refine (spec_CheapestFit.calls k A3 c4 x9 x28 x29 x30 x31 _ (by (with_reducible repeat (first | apply Kd.C_drewN | apply Kd.C_drew)); exact HC7.out) HL8.out H101.out).mono ?_
  rintro e w2 ⟨v12, v18, v24, rfl, hF13, hF19, hF25, hb⟩
  have HB2 := Aside0.mk (below_next (N := hi117) (by repeat (first | exact HB.out | apply pw_below_drewN | apply below_drew1)) (by exact HN.out) (by have := O118.out; omega) hb)
  replace F6 := Aside0.mk (show Kd.S (Kd.slice 3 (Kd.int .i64)) 27 w2 w.heap.size (fun k_ => (lo116 ≤ k_ ∧ k_ < hi117) ∧ True) (.slice A3 x9.length c4) x9 from Kd.S_below (by (with_reducible repeat (first | apply Kd.S_drewN | apply Kd.S_drew)); exact F6.out) hb)
  replace HC7 := Aside0.mk (show Kd.C (Kd.slice 3 (Kd.int .i64)) w2 A3 x9.length x9 from Kd.C_below (by (with_reducible repeat (first | apply Kd.C_drewN | apply Kd.C_drew)); exact HC7.out) hb)
  obtain ⟨lo119, hi120, ho, hg⟩ := fresh_pts (N := hi117) hb (by exact HN.out)
  have O121 := Aside0.mk (show hi117 ≤ lo119 ∧ lo119 ≤ hi120 from ⟨ho.1, ho.2.1⟩)
  have hF13b := R_in hF13 hg (B := w.heap.size) (by have := O118.out; have := O121.out; omega)
  have hF19b := R_in hF19 hg (B := w.heap.size) (by have := O118.out; have := O121.out; omega)
  have hF25b := R_in hF25 hg (B := w.heap.size) (by have := O118.out; have := O121.out; omega)
  obtain ⟨A10, c11, rfl, hle, hC⟩ := Kd.R_reads hF13b
  have HC14 := Aside0.mk hC
  have HL15 := Aside0.mk hle
  clear hle hC
  obtain ⟨A16, c17, rfl, hle, hC⟩ := Kd.R_reads hF19b
  have HC20 := Aside0.mk hC
  have HL21 := Aside0.mk hle
  clear hle hC
  obtain ⟨A22, c23, rfl, hle, hC⟩ := Kd.R_reads hF25b
  have HC26 := Aside0.mk hC
  have HL27 := Aside0.mk hle
  clear hle hC
  have F13 := Aside0.mk (show Kd.R (Kd.int .i64) 3 w2 w.heap.size (fun k_ => (lo119 ≤ k_ ∧ k_ < hi120) ∧ some k_ ≠ (.slice A16 x29.length c17 : Value).ownBlock ∧ some k_ ≠ (.slice A22 x30.length c23 : Value).ownBlock) (.slice A10 x28.length c11) x28 from hF13b)
  clear hF13 hF13b
  have F19 := Aside0.mk (show Kd.R (Kd.int .i64) 3 w2 w.heap.size (fun k_ => (lo119 ≤ k_ ∧ k_ < hi120) ∧ some k_ ≠ (.slice A10 x28.length c11 : Value).ownBlock ∧ some k_ ≠ (.slice A22 x30.length c23 : Value).ownBlock) (.slice A16 x29.length c17) x29 from hF19b)
  clear hF19 hF19b
  have F25 := Aside0.mk (show Kd.R (Kd.int .i64) 3 w2 w.heap.size (fun k_ => (lo119 ≤ k_ ∧ k_ < hi120) ∧ some k_ ≠ (.slice A10 x28.length c11 : Value).ownBlock ∧ some k_ ≠ (.slice A16 x29.length c17 : Value).ownBlock) (.slice A22 x30.length c23) x30 from hF25b)
  clear hF25 hF25b
  replace HN := Aside0.mk (show hi120 ≤ w2.heap.size from ho.2.2)
  clear ho hg
  replace HB := HB2
  clear HB2 hb
  go_wp2_with ((with_reducible refine gate_dst (N := 5) rfl ?_); refine box_event ?hg (N := 5) ?hd (cs := #[.slice none 0 0, .slice none 0 0]) (t := 33) ?hr ?_; (case hd => rfl); (case hg => rfl); (case hr => first | (go_simp; done) | (go_simp; rfl)); intro gb5 hgb wb hbox hb0; have hz0 : wb.cell? ⟨gb5, 0, none⟩ = some (.slice none 0 0) := (blk_cell hbox 0).trans rfl; have hf0 := blk_frozen hbox 0; have hz1 : wb.cell? ⟨gb5, 1, none⟩ = some (.slice none 0 0) := (blk_cell hbox 1).trans rfl; have hf1 := blk_frozen hbox 1; have hb := below_set (g := gb5) (j := 1) (v := .slice A22 x30.length c23) (below_set (g := gb5) (j := 0) (v := .slice A16 x29.length c17) (hb0) (Nat.le_of_eq hgb.symm)) (Nat.le_of_eq hgb.symm); have BK5 := Aside0.mk (blk_set (blk_set (hbox) 0 (.slice A16 x29.length c17)) 1 (.slice A22 x30.length c23)); have HGB := Aside0.mk hgb; clear hgb hbox hb0)
  generalize ((wb).setCell ⟨gb5, 0, none⟩ (.slice A16 x29.length c17)).setCell ⟨gb5, 1, none⟩ (.slice A22 x30.length c23) = w3 at hb BK5 ⊢
  clear hz0 hf0 hz1 hf1
  replace BK5 := Aside0.mk (show w3.heap[gb5]? = some (.cells #[.slice A16 x29.length c17, .slice A22 x30.length c23] 33 (0, 0)) from BK5.out)
  have HB2 := Aside0.mk (below_next (N := hi120) (by repeat (first | exact HB.out | apply pw_below_drewN | apply below_drew1)) (by exact HN.out) (by have := O118.out; have := O121.out; omega) hb)
  replace F6 := Aside0.mk (show Kd.S (Kd.slice 3 (Kd.int .i64)) 27 w3 w.heap.size (fun k_ => (lo116 ≤ k_ ∧ k_ < hi117) ∧ True) (.slice A3 x9.length c4) x9 from Kd.S_below (by (with_reducible repeat (first | apply Kd.S_drewN | apply Kd.S_drew)); exact F6.out) hb)
  replace HC7 := Aside0.mk (show Kd.C (Kd.slice 3 (Kd.int .i64)) w3 A3 x9.length x9 from Kd.C_below (by (with_reducible repeat (first | apply Kd.C_drewN | apply Kd.C_drew)); exact HC7.out) hb)
  replace F13 := Aside0.mk (show Kd.R (Kd.int .i64) 3 w3 w.heap.size (fun k_ => (lo119 ≤ k_ ∧ k_ < hi120) ∧ some k_ ≠ (.slice A16 x29.length c17 : Value).ownBlock ∧ some k_ ≠ (.slice A22 x30.length c23 : Value).ownBlock) (.slice A10 x28.length c11) x28 from Kd.R_below (by (with_reducible repeat (first | apply Kd.R_drewN | apply Kd.R_drew)); exact F13.out) hb)
  replace HC14 := Aside0.mk (show Kd.C (Kd.int .i64) w3 A10 x28.length x28 from Kd.C_below (by (with_reducible repeat (first | apply Kd.C_drewN | apply Kd.C_drew)); exact HC14.out) hb)
  replace F19 := Aside0.mk (show Kd.R (Kd.int .i64) 3 w3 w.heap.size (fun k_ => (lo119 ≤ k_ ∧ k_ < hi120) ∧ some k_ ≠ (.slice A10 x28.length c11 : Value).ownBlock ∧ some k_ ≠ (.slice A22 x30.length c23 : Value).ownBlock) (.slice A16 x29.length c17) x29 from Kd.R_below (by (with_reducible repeat (first | apply Kd.R_drewN | apply Kd.R_drew)); exact F19.out) hb)
  replace HC20 := Aside0.mk (show Kd.C (Kd.int .i64) w3 A16 x29.length x29 from Kd.C_below (by (with_reducible repeat (first | apply Kd.C_drewN | apply Kd.C_drew)); exact HC20.out) hb)
  replace F25 := Aside0.mk (show Kd.R (Kd.int .i64) 3 w3 w.heap.size (fun k_ => (lo119 ≤ k_ ∧ k_ < hi120) ∧ some k_ ≠ (.slice A10 x28.length c11 : Value).ownBlock ∧ some k_ ≠ (.slice A16 x29.length c17 : Value).ownBlock) (.slice A22 x30.length c23) x30 from Kd.R_below (by (with_reducible repeat (first | apply Kd.R_drewN | apply Kd.R_drew)); exact F25.out) hb)
  replace HC26 := Aside0.mk (show Kd.C (Kd.int .i64) w3 A22 x30.length x30 from Kd.C_below (by (with_reducible repeat (first | apply Kd.C_drewN | apply Kd.C_drew)); exact HC26.out) hb)
  obtain ⟨lo122, hi123, ho, hg⟩ := fresh_pts (N := hi120) hb (by exact HN.out)
  have O124 := Aside0.mk (show hi120 ≤ lo122 ∧ lo122 ≤ hi123 from ⟨ho.1, ho.2.1⟩)
  have EG5 := Aside0.mk (show gb5 = lo122 ∧ gb5 < hi123 from ⟨HGB.out.trans hg.1.symm, by rw [hg.2]; exact blk_lt BK5.out⟩)
  replace HN := Aside0.mk (show hi123 ≤ w3.heap.size from ho.2.2)
  clear ho hg HGB
  replace HB := HB2
  clear HB2 hb
  clear F6 HC7
  go_wp2_with fail
  go_at_call 13
  refine (laws_toIntSS.calls k A0 c0 l0 x9 _ (Kd.C_below HR0.out (by repeat (first | exact HB.out | apply pw_below_drewN | apply below_drew1))) HL0.out H100.out).mono ?_
  rintro e w4 ⟨v34, rfl, hF35, hb⟩
  have HB2 := Aside0.mk (below_next (N := hi123) (by repeat (first | exact HB.out | apply pw_below_drewN | apply below_drew1)) (by exact HN.out) (by have := O118.out; have := O121.out; have := O124.out; omega) hb)
  replace F13 := Aside0.mk (show Kd.R (Kd.int .i64) 3 w4 w.heap.size (fun k_ => (lo119 ≤ k_ ∧ k_ < hi120) ∧ some k_ ≠ (.slice A16 x29.length c17 : Value).ownBlock ∧ some k_ ≠ (.slice A22 x30.length c23 : Value).ownBlock) (.slice A10 x28.length c11) x28 from Kd.R_below (by (with_reducible repeat (first | apply Kd.R_drewN | apply Kd.R_drew)); exact F13.out) hb)
  replace HC14 := Aside0.mk (show Kd.C (Kd.int .i64) w4 A10 x28.length x28 from Kd.C_below (by (with_reducible repeat (first | apply Kd.C_drewN | apply Kd.C_drew)); exact HC14.out) hb)
  replace F19 := Aside0.mk (show Kd.R (Kd.int .i64) 3 w4 w.heap.size (fun k_ => (lo119 ≤ k_ ∧ k_ < hi120) ∧ some k_ ≠ (.slice A10 x28.length c11 : Value).ownBlock ∧ some k_ ≠ (.slice A22 x30.length c23 : Value).ownBlock) (.slice A16 x29.length c17) x29 from Kd.R_below (by (with_reducible repeat (first | apply Kd.R_drewN | apply Kd.R_drew)); exact F19.out) hb)
  replace HC20 := Aside0.mk (show Kd.C (Kd.int .i64) w4 A16 x29.length x29 from Kd.C_below (by (with_reducible repeat (first | apply Kd.C_drewN | apply Kd.C_drew)); exact HC20.out) hb)
  replace F25 := Aside0.mk (show Kd.R (Kd.int .i64) 3 w4 w.heap.size (fun k_ => (lo119 ≤ k_ ∧ k_ < hi120) ∧ some k_ ≠ (.slice A10 x28.length c11 : Value).ownBlock ∧ some k_ ≠ (.slice A16 x29.length c17 : Value).ownBlock) (.slice A22 x30.length c23) x30 from Kd.R_below (by (with_reducible repeat (first | apply Kd.R_drewN | apply Kd.R_drew)); exact F25.out) hb)
  replace HC26 := Aside0.mk (show Kd.C (Kd.int .i64) w4 A22 x30.length x30 from Kd.C_below (by (with_reducible repeat (first | apply Kd.C_drewN | apply Kd.C_drew)); exact HC26.out) hb)
  replace BK5 := Aside0.mk (show w4.heap[gb5]? = some (.cells #[.slice A16 x29.length c17, .slice A22 x30.length c23] 33 (0, 0)) from blk_below (by (with_reducible repeat (first | refine blk_drewN ?_ _ | refine blk_drew ?_)); exact BK5.out) hb)
  obtain ⟨lo125, hi126, ho, hg⟩ := fresh_pts (N := hi123) hb (by exact HN.out)
  have O127 := Aside0.mk (show hi123 ≤ lo125 ∧ lo125 ≤ hi126 from ⟨ho.1, ho.2.1⟩)
  have hF35b := S_in hF35 hg (B := w.heap.size) (by have := O118.out; have := O121.out; have := O124.out; have := O127.out; omega)
  obtain ⟨A32, c33, rfl, hle, hC⟩ := Kd.S_reads hF35b
  have HC36 := Aside0.mk hC
  have HL37 := Aside0.mk hle
  clear hle hC
  have F35 := Aside0.mk (show Kd.S (Kd.slice 3 (Kd.int .i64)) 27 w4 w.heap.size (fun k_ => (lo125 ≤ k_ ∧ k_ < hi126) ∧ True) (.slice A32 x9.length c33) x9 from hF35b)
  clear hF35 hF35b
  replace HN := Aside0.mk (show hi126 ≤ w4.heap.size from ho.2.2)
  clear ho hg
  replace HB := HB2
  clear HB2 hb
  go_wp2_with fail
  go_at_call 34
  refine (impl_CheapestFit.calls k A32 c33 x9 x28 x29 x30 x31 _ (by (with_reducible repeat (first | apply Kd.C_drewN | apply Kd.C_drew)); exact HC36.out) HL37.out H102.out).mono ?_
  rintro e w5 ⟨v40, v46, v52, rfl, hF41, hF47, hF53, hb⟩
  have HB2 := Aside0.mk (below_next (N := hi126) (by repeat (first | exact HB.out | apply pw_below_drewN | apply below_drew1)) (by exact HN.out) (by have := O118.out; have := O121.out; have := O124.out; have := O127.out; omega) hb)
  replace F13 := Aside0.mk (show Kd.R (Kd.int .i64) 3 w5 w.heap.size (fun k_ => (lo119 ≤ k_ ∧ k_ < hi120) ∧ some k_ ≠ (.slice A16 x29.length c17 : Value).ownBlock ∧ some k_ ≠ (.slice A22 x30.length c23 : Value).ownBlock) (.slice A10 x28.length c11) x28 from Kd.R_below (by (with_reducible repeat (first | apply Kd.R_drewN | apply Kd.R_drew)); exact F13.out) hb)
  replace HC14 := Aside0.mk (show Kd.C (Kd.int .i64) w5 A10 x28.length x28 from Kd.C_below (by (with_reducible repeat (first | apply Kd.C_drewN | apply Kd.C_drew)); exact HC14.out) hb)
  replace F19 := Aside0.mk (show Kd.R (Kd.int .i64) 3 w5 w.heap.size (fun k_ => (lo119 ≤ k_ ∧ k_ < hi120) ∧ some k_ ≠ (.slice A10 x28.length c11 : Value).ownBlock ∧ some k_ ≠ (.slice A22 x30.length c23 : Value).ownBlock) (.slice A16 x29.length c17) x29 from Kd.R_below (by (with_reducible repeat (first | apply Kd.R_drewN | apply Kd.R_drew)); exact F19.out) hb)
  replace HC20 := Aside0.mk (show Kd.C (Kd.int .i64) w5 A16 x29.length x29 from Kd.C_below (by (with_reducible repeat (first | apply Kd.C_drewN | apply Kd.C_drew)); exact HC20.out) hb)
  replace F25 := Aside0.mk (show Kd.R (Kd.int .i64) 3 w5 w.heap.size (fun k_ => (lo119 ≤ k_ ∧ k_ < hi120) ∧ some k_ ≠ (.slice A10 x28.length c11 : Value).ownBlock ∧ some k_ ≠ (.slice A16 x29.length c17 : Value).ownBlock) (.slice A22 x30.length c23) x30 from Kd.R_below (by (with_reducible repeat (first | apply Kd.R_drewN | apply Kd.R_drew)); exact F25.out) hb)
  replace HC26 := Aside0.mk (show Kd.C (Kd.int .i64) w5 A22 x30.length x30 from Kd.C_below (by (with_reducible repeat (first | apply Kd.C_drewN | apply Kd.C_drew)); exact HC26.out) hb)
  replace F35 := Aside0.mk (show Kd.S (Kd.slice 3 (Kd.int .i64)) 27 w5 w.heap.size (fun k_ => (lo125 ≤ k_ ∧ k_ < hi126) ∧ True) (.slice A32 x9.length c33) x9 from Kd.S_below (by (with_reducible repeat (first | apply Kd.S_drewN | apply Kd.S_drew)); exact F35.out) hb)
  replace HC36 := Aside0.mk (show Kd.C (Kd.slice 3 (Kd.int .i64)) w5 A32 x9.length x9 from Kd.C_below (by (with_reducible repeat (first | apply Kd.C_drewN | apply Kd.C_drew)); exact HC36.out) hb)
  replace BK5 := Aside0.mk (show w5.heap[gb5]? = some (.cells #[.slice A16 x29.length c17, .slice A22 x30.length c23] 33 (0, 0)) from blk_below (by (with_reducible repeat (first | refine blk_drewN ?_ _ | refine blk_drew ?_)); exact BK5.out) hb)
  obtain ⟨lo128, hi129, ho, hg⟩ := fresh_pts (N := hi126) hb (by exact HN.out)
  have O130 := Aside0.mk (show hi126 ≤ lo128 ∧ lo128 ≤ hi129 from ⟨ho.1, ho.2.1⟩)
  have hF41b := R_in hF41 hg (B := w.heap.size) (by have := O118.out; have := O121.out; have := O124.out; have := O127.out; have := O130.out; omega)
  have hF47b := R_in hF47 hg (B := w.heap.size) (by have := O118.out; have := O121.out; have := O124.out; have := O127.out; have := O130.out; omega)
  have hF53b := R_in hF53 hg (B := w.heap.size) (by have := O118.out; have := O121.out; have := O124.out; have := O127.out; have := O130.out; omega)
  obtain ⟨A38, c39, rfl, hle, hC⟩ := Kd.R_reads hF41b
  have HC42 := Aside0.mk hC
  have HL43 := Aside0.mk hle
  clear hle hC
  obtain ⟨A44, c45, rfl, hle, hC⟩ := Kd.R_reads hF47b
  have HC48 := Aside0.mk hC
  have HL49 := Aside0.mk hle
  clear hle hC
  obtain ⟨A50, c51, rfl, hle, hC⟩ := Kd.R_reads hF53b
  have HC54 := Aside0.mk hC
  have HL55 := Aside0.mk hle
  clear hle hC
  have F41 := Aside0.mk (show Kd.R (Kd.int .i64) 3 w5 w.heap.size (fun k_ => (lo128 ≤ k_ ∧ k_ < hi129) ∧ some k_ ≠ (.slice A44 x29.length c45 : Value).ownBlock ∧ some k_ ≠ (.slice A50 x30.length c51 : Value).ownBlock) (.slice A38 x28.length c39) x28 from hF41b)
  clear hF41 hF41b
  have F47 := Aside0.mk (show Kd.R (Kd.int .i64) 3 w5 w.heap.size (fun k_ => (lo128 ≤ k_ ∧ k_ < hi129) ∧ some k_ ≠ (.slice A38 x28.length c39 : Value).ownBlock ∧ some k_ ≠ (.slice A50 x30.length c51 : Value).ownBlock) (.slice A44 x29.length c45) x29 from hF47b)
  clear hF47 hF47b
  have F53 := Aside0.mk (show Kd.R (Kd.int .i64) 3 w5 w.heap.size (fun k_ => (lo128 ≤ k_ ∧ k_ < hi129) ∧ some k_ ≠ (.slice A38 x28.length c39 : Value).ownBlock ∧ some k_ ≠ (.slice A44 x29.length c45 : Value).ownBlock) (.slice A50 x30.length c51) x30 from hF53b)
  clear hF53 hF53b
  replace HN := Aside0.mk (show hi129 ≤ w5.heap.size from ho.2.2)
  clear ho hg
  replace HB := HB2
  clear HB2 hb
  go_wp2_with ((with_reducible refine gate_dst (N := 9) rfl ?_); refine box_event ?hg (N := 9) ?hd (cs := #[.slice none 0 0, .slice none 0 0]) (t := 33) ?hr ?_; (case hd => rfl); (case hg => rfl); (case hr => first | (go_simp; done) | (go_simp; rfl)); intro gb9 hgb wb hbox hb0; have hz0 : wb.cell? ⟨gb9, 0, none⟩ = some (.slice none 0 0) := (blk_cell hbox 0).trans rfl; have hf0 := blk_frozen hbox 0; have hz1 : wb.cell? ⟨gb9, 1, none⟩ = some (.slice none 0 0) := (blk_cell hbox 1).trans rfl; have hf1 := blk_frozen hbox 1; have hx5_ := blk_below (by (with_reducible repeat (first | refine blk_drewN ?_ _ | refine blk_drew ?_)); exact BK5.out) hb0; have hw5_0 : wb.cell? ⟨gb5, 0, none⟩ = some (.slice A16 x29.length c17) := (blk_cell hx5_ 0).trans rfl; have hw5_1 : wb.cell? ⟨gb5, 1, none⟩ = some (.slice A22 x30.length c23) := (blk_cell hx5_ 1).trans rfl; clear hx5_; have hne5_ : gb5 ≠ gb9 := Nat.ne_of_lt (Nat.lt_of_lt_of_eq (blk_lt (by (with_reducible repeat (first | refine blk_drewN ?_ _ | refine blk_drew ?_)); exact BK5.out)) hgb.symm); have hnf5_ := Ne.symm hne5_; have hb := below_set (g := gb9) (j := 1) (v := .slice A50 x30.length c51) (below_set (g := gb9) (j := 0) (v := .slice A44 x29.length c45) (hb0) (Nat.le_of_eq hgb.symm)) (Nat.le_of_eq hgb.symm); have BK9 := Aside0.mk (blk_set (blk_set (hbox) 0 (.slice A44 x29.length c45)) 1 (.slice A50 x30.length c51)); have HGB := Aside0.mk hgb; clear hgb hbox hb0)
  generalize ((wb).setCell ⟨gb9, 0, none⟩ (.slice A44 x29.length c45)).setCell ⟨gb9, 1, none⟩ (.slice A50 x30.length c51) = w6 at hb BK9 ⊢
  clear hz0 hf0 hz1 hf1 hne5_ hnf5_ hw5_0 hw5_1
  replace BK9 := Aside0.mk (show w6.heap[gb9]? = some (.cells #[.slice A44 x29.length c45, .slice A50 x30.length c51] 33 (0, 0)) from BK9.out)
  have HB2 := Aside0.mk (below_next (N := hi129) (by repeat (first | exact HB.out | apply pw_below_drewN | apply below_drew1)) (by exact HN.out) (by have := O118.out; have := O121.out; have := O124.out; have := O127.out; have := O130.out; omega) hb)
  replace F13 := Aside0.mk (show Kd.R (Kd.int .i64) 3 w6 w.heap.size (fun k_ => (lo119 ≤ k_ ∧ k_ < hi120) ∧ some k_ ≠ (.slice A16 x29.length c17 : Value).ownBlock ∧ some k_ ≠ (.slice A22 x30.length c23 : Value).ownBlock) (.slice A10 x28.length c11) x28 from Kd.R_below (by (with_reducible repeat (first | apply Kd.R_drewN | apply Kd.R_drew)); exact F13.out) hb)
  replace HC14 := Aside0.mk (show Kd.C (Kd.int .i64) w6 A10 x28.length x28 from Kd.C_below (by (with_reducible repeat (first | apply Kd.C_drewN | apply Kd.C_drew)); exact HC14.out) hb)
  replace F19 := Aside0.mk (show Kd.R (Kd.int .i64) 3 w6 w.heap.size (fun k_ => (lo119 ≤ k_ ∧ k_ < hi120) ∧ some k_ ≠ (.slice A10 x28.length c11 : Value).ownBlock ∧ some k_ ≠ (.slice A22 x30.length c23 : Value).ownBlock) (.slice A16 x29.length c17) x29 from Kd.R_below (by (with_reducible repeat (first | apply Kd.R_drewN | apply Kd.R_drew)); exact F19.out) hb)
  replace HC20 := Aside0.mk (show Kd.C (Kd.int .i64) w6 A16 x29.length x29 from Kd.C_below (by (with_reducible repeat (first | apply Kd.C_drewN | apply Kd.C_drew)); exact HC20.out) hb)
  replace F25 := Aside0.mk (show Kd.R (Kd.int .i64) 3 w6 w.heap.size (fun k_ => (lo119 ≤ k_ ∧ k_ < hi120) ∧ some k_ ≠ (.slice A10 x28.length c11 : Value).ownBlock ∧ some k_ ≠ (.slice A16 x29.length c17 : Value).ownBlock) (.slice A22 x30.length c23) x30 from Kd.R_below (by (with_reducible repeat (first | apply Kd.R_drewN | apply Kd.R_drew)); exact F25.out) hb)
  replace HC26 := Aside0.mk (show Kd.C (Kd.int .i64) w6 A22 x30.length x30 from Kd.C_below (by (with_reducible repeat (first | apply Kd.C_drewN | apply Kd.C_drew)); exact HC26.out) hb)
  replace F35 := Aside0.mk (show Kd.S (Kd.slice 3 (Kd.int .i64)) 27 w6 w.heap.size (fun k_ => (lo125 ≤ k_ ∧ k_ < hi126) ∧ True) (.slice A32 x9.length c33) x9 from Kd.S_below (by (with_reducible repeat (first | apply Kd.S_drewN | apply Kd.S_drew)); exact F35.out) hb)
  replace HC36 := Aside0.mk (show Kd.C (Kd.slice 3 (Kd.int .i64)) w6 A32 x9.length x9 from Kd.C_below (by (with_reducible repeat (first | apply Kd.C_drewN | apply Kd.C_drew)); exact HC36.out) hb)
  replace F41 := Aside0.mk (show Kd.R (Kd.int .i64) 3 w6 w.heap.size (fun k_ => (lo128 ≤ k_ ∧ k_ < hi129) ∧ some k_ ≠ (.slice A44 x29.length c45 : Value).ownBlock ∧ some k_ ≠ (.slice A50 x30.length c51 : Value).ownBlock) (.slice A38 x28.length c39) x28 from Kd.R_below (by (with_reducible repeat (first | apply Kd.R_drewN | apply Kd.R_drew)); exact F41.out) hb)
  replace HC42 := Aside0.mk (show Kd.C (Kd.int .i64) w6 A38 x28.length x28 from Kd.C_below (by (with_reducible repeat (first | apply Kd.C_drewN | apply Kd.C_drew)); exact HC42.out) hb)
  replace F47 := Aside0.mk (show Kd.R (Kd.int .i64) 3 w6 w.heap.size (fun k_ => (lo128 ≤ k_ ∧ k_ < hi129) ∧ some k_ ≠ (.slice A38 x28.length c39 : Value).ownBlock ∧ some k_ ≠ (.slice A50 x30.length c51 : Value).ownBlock) (.slice A44 x29.length c45) x29 from Kd.R_below (by (with_reducible repeat (first | apply Kd.R_drewN | apply Kd.R_drew)); exact F47.out) hb)
  replace HC48 := Aside0.mk (show Kd.C (Kd.int .i64) w6 A44 x29.length x29 from Kd.C_below (by (with_reducible repeat (first | apply Kd.C_drewN | apply Kd.C_drew)); exact HC48.out) hb)
  replace F53 := Aside0.mk (show Kd.R (Kd.int .i64) 3 w6 w.heap.size (fun k_ => (lo128 ≤ k_ ∧ k_ < hi129) ∧ some k_ ≠ (.slice A38 x28.length c39 : Value).ownBlock ∧ some k_ ≠ (.slice A44 x29.length c45 : Value).ownBlock) (.slice A50 x30.length c51) x30 from Kd.R_below (by (with_reducible repeat (first | apply Kd.R_drewN | apply Kd.R_drew)); exact F53.out) hb)
  replace HC54 := Aside0.mk (show Kd.C (Kd.int .i64) w6 A50 x30.length x30 from Kd.C_below (by (with_reducible repeat (first | apply Kd.C_drewN | apply Kd.C_drew)); exact HC54.out) hb)
  replace BK5 := Aside0.mk (show w6.heap[gb5]? = some (.cells #[.slice A16 x29.length c17, .slice A22 x30.length c23] 33 (0, 0)) from blk_below (by (with_reducible repeat (first | refine blk_drewN ?_ _ | refine blk_drew ?_)); exact BK5.out) hb)
  obtain ⟨lo131, hi132, ho, hg⟩ := fresh_pts (N := hi129) hb (by exact HN.out)
  have O133 := Aside0.mk (show hi129 ≤ lo131 ∧ lo131 ≤ hi132 from ⟨ho.1, ho.2.1⟩)
  have EG9 := Aside0.mk (show gb9 = lo131 ∧ gb9 < hi132 from ⟨HGB.out.trans hg.1.symm, by rw [hg.2]; exact blk_lt BK9.out⟩)
  replace HN := Aside0.mk (show hi132 ≤ w6.heap.size from ho.2.2)
  clear ho hg HGB
  replace HB := HB2
  clear HB2 hb
  have k5_0 : World.cell? _ ⟨gb5, 0, none⟩ = some (.slice A16 x29.length c17) := (blk_cell BK5.out 0).trans rfl
  have k5_1 : World.cell? _ ⟨gb5, 1, none⟩ = some (.slice A22 x30.length c23) := (blk_cell BK5.out 1).trans rfl
  have k9_0 : World.cell? _ ⟨gb9, 0, none⟩ = some (.slice A44 x29.length c45) := (blk_cell BK9.out 0).trans rfl
  have k9_1 : World.cell? _ ⟨gb9, 1, none⟩ = some (.slice A50 x30.length c51) := (blk_cell BK9.out 1).trans rfl
  go_wp2_with fail
  try clear k5_0 k5_1 k9_0 k9_1
  go_at_call 35
  refine (laws_eqIntS.calls k A38 c39 x28 A10 c11 x28 true _ (by (with_reducible repeat (first | apply Kd.C_drewN | apply Kd.C_drew)); exact HC42.out) HL43.out (by (with_reducible repeat (first | apply Kd.C_drewN | apply Kd.C_drew)); exact HC14.out) HL15.out H103.out).mono ?_
  rintro e w_134 ⟨rfl, ⟨nd135, rfl⟩⟩
  have k5_0 : World.cell? _ ⟨gb5, 0, none⟩ = some (.slice A16 x29.length c17) := (blk_cell BK5.out 0).trans rfl
  have k5_1 : World.cell? _ ⟨gb5, 1, none⟩ = some (.slice A22 x30.length c23) := (blk_cell BK5.out 1).trans rfl
  have k9_0 : World.cell? _ ⟨gb9, 0, none⟩ = some (.slice A44 x29.length c45) := (blk_cell BK9.out 0).trans rfl
  have k9_1 : World.cell? _ ⟨gb9, 1, none⟩ = some (.slice A50 x30.length c51) := (blk_cell BK9.out 1).trans rfl
  go_wp2_with fail
  try clear k5_0 k5_1 k9_0 k9_1
  go_at_call 20
  refine (laws_eqPrices.calls k A44 c45 x29 A50 c51 x30 A16 c17 x29 A22 c23 x30 true _ (by (with_reducible repeat (first | apply Kd.C_drewN | apply Kd.C_drew)); exact HC48.out) HL49.out (by (with_reducible repeat (first | apply Kd.C_drewN | apply Kd.C_drew)); exact HC54.out) HL55.out (by (with_reducible repeat (first | apply Kd.C_drewN | apply Kd.C_drew)); exact HC20.out) HL21.out (by (with_reducible repeat (first | apply Kd.C_drewN | apply Kd.C_drew)); exact HC26.out) HL27.out H104.out).mono ?_
  rintro e w7 ⟨rfl, hb⟩
  have HB2 := Aside0.mk (below_next (N := hi132) (by repeat (first | exact HB.out | apply pw_below_drewN | apply below_drew1)) (by exact HN.out) (by have := O118.out; have := O121.out; have := O124.out; have := O127.out; have := O130.out; have := O133.out; omega) hb)
  replace F13 := Aside0.mk (show Kd.R (Kd.int .i64) 3 w7 w.heap.size (fun k_ => (lo119 ≤ k_ ∧ k_ < hi120) ∧ some k_ ≠ (.slice A16 x29.length c17 : Value).ownBlock ∧ some k_ ≠ (.slice A22 x30.length c23 : Value).ownBlock) (.slice A10 x28.length c11) x28 from Kd.R_below (by (with_reducible repeat (first | apply Kd.R_drewN | apply Kd.R_drew)); exact F13.out) hb)
  replace HC14 := Aside0.mk (show Kd.C (Kd.int .i64) w7 A10 x28.length x28 from Kd.C_below (by (with_reducible repeat (first | apply Kd.C_drewN | apply Kd.C_drew)); exact HC14.out) hb)
  replace F19 := Aside0.mk (show Kd.R (Kd.int .i64) 3 w7 w.heap.size (fun k_ => (lo119 ≤ k_ ∧ k_ < hi120) ∧ some k_ ≠ (.slice A10 x28.length c11 : Value).ownBlock ∧ some k_ ≠ (.slice A22 x30.length c23 : Value).ownBlock) (.slice A16 x29.length c17) x29 from Kd.R_below (by (with_reducible repeat (first | apply Kd.R_drewN | apply Kd.R_drew)); exact F19.out) hb)
  replace HC20 := Aside0.mk (show Kd.C (Kd.int .i64) w7 A16 x29.length x29 from Kd.C_below (by (with_reducible repeat (first | apply Kd.C_drewN | apply Kd.C_drew)); exact HC20.out) hb)
  replace F25 := Aside0.mk (show Kd.R (Kd.int .i64) 3 w7 w.heap.size (fun k_ => (lo119 ≤ k_ ∧ k_ < hi120) ∧ some k_ ≠ (.slice A10 x28.length c11 : Value).ownBlock ∧ some k_ ≠ (.slice A16 x29.length c17 : Value).ownBlock) (.slice A22 x30.length c23) x30 from Kd.R_below (by (with_reducible repeat (first | apply Kd.R_drewN | apply Kd.R_drew)); exact F25.out) hb)
  replace HC26 := Aside0.mk (show Kd.C (Kd.int .i64) w7 A22 x30.length x30 from Kd.C_below (by (with_reducible repeat (first | apply Kd.C_drewN | apply Kd.C_drew)); exact HC26.out) hb)
  replace F35 := Aside0.mk (show Kd.S (Kd.slice 3 (Kd.int .i64)) 27 w7 w.heap.size (fun k_ => (lo125 ≤ k_ ∧ k_ < hi126) ∧ True) (.slice A32 x9.length c33) x9 from Kd.S_below (by (with_reducible repeat (first | apply Kd.S_drewN | apply Kd.S_drew)); exact F35.out) hb)
  replace HC36 := Aside0.mk (show Kd.C (Kd.slice 3 (Kd.int .i64)) w7 A32 x9.length x9 from Kd.C_below (by (with_reducible repeat (first | apply Kd.C_drewN | apply Kd.C_drew)); exact HC36.out) hb)
  replace F41 := Aside0.mk (show Kd.R (Kd.int .i64) 3 w7 w.heap.size (fun k_ => (lo128 ≤ k_ ∧ k_ < hi129) ∧ some k_ ≠ (.slice A44 x29.length c45 : Value).ownBlock ∧ some k_ ≠ (.slice A50 x30.length c51 : Value).ownBlock) (.slice A38 x28.length c39) x28 from Kd.R_below (by (with_reducible repeat (first | apply Kd.R_drewN | apply Kd.R_drew)); exact F41.out) hb)
  replace HC42 := Aside0.mk (show Kd.C (Kd.int .i64) w7 A38 x28.length x28 from Kd.C_below (by (with_reducible repeat (first | apply Kd.C_drewN | apply Kd.C_drew)); exact HC42.out) hb)
  replace F47 := Aside0.mk (show Kd.R (Kd.int .i64) 3 w7 w.heap.size (fun k_ => (lo128 ≤ k_ ∧ k_ < hi129) ∧ some k_ ≠ (.slice A38 x28.length c39 : Value).ownBlock ∧ some k_ ≠ (.slice A50 x30.length c51 : Value).ownBlock) (.slice A44 x29.length c45) x29 from Kd.R_below (by (with_reducible repeat (first | apply Kd.R_drewN | apply Kd.R_drew)); exact F47.out) hb)
  replace HC48 := Aside0.mk (show Kd.C (Kd.int .i64) w7 A44 x29.length x29 from Kd.C_below (by (with_reducible repeat (first | apply Kd.C_drewN | apply Kd.C_drew)); exact HC48.out) hb)
  replace F53 := Aside0.mk (show Kd.R (Kd.int .i64) 3 w7 w.heap.size (fun k_ => (lo128 ≤ k_ ∧ k_ < hi129) ∧ some k_ ≠ (.slice A38 x28.length c39 : Value).ownBlock ∧ some k_ ≠ (.slice A44 x29.length c45 : Value).ownBlock) (.slice A50 x30.length c51) x30 from Kd.R_below (by (with_reducible repeat (first | apply Kd.R_drewN | apply Kd.R_drew)); exact F53.out) hb)
  replace HC54 := Aside0.mk (show Kd.C (Kd.int .i64) w7 A50 x30.length x30 from Kd.C_below (by (with_reducible repeat (first | apply Kd.C_drewN | apply Kd.C_drew)); exact HC54.out) hb)
  replace BK5 := Aside0.mk (show w7.heap[gb5]? = some (.cells #[.slice A16 x29.length c17, .slice A22 x30.length c23] 33 (0, 0)) from blk_below (by (with_reducible repeat (first | refine blk_drewN ?_ _ | refine blk_drew ?_)); exact BK5.out) hb)
  replace BK9 := Aside0.mk (show w7.heap[gb9]? = some (.cells #[.slice A44 x29.length c45, .slice A50 x30.length c51] 33 (0, 0)) from blk_below (by (with_reducible repeat (first | refine blk_drewN ?_ _ | refine blk_drew ?_)); exact BK9.out) hb)
  replace HN := Aside0.mk (show hi132 ≤ w7.heap.size from Nat.le_trans HN.out hb.size)
  replace HB := HB2
  clear HB2 hb
  have k5_0 : World.cell? _ ⟨gb5, 0, none⟩ = some (.slice A16 x29.length c17) := (blk_cell BK5.out 0).trans rfl
  have k5_1 : World.cell? _ ⟨gb5, 1, none⟩ = some (.slice A22 x30.length c23) := (blk_cell BK5.out 1).trans rfl
  have k9_0 : World.cell? _ ⟨gb9, 0, none⟩ = some (.slice A44 x29.length c45) := (blk_cell BK9.out 0).trans rfl
  have k9_1 : World.cell? _ ⟨gb9, 1, none⟩ = some (.slice A50 x30.length c51) := (blk_cell BK9.out 1).trans rfl
  go_wp2_with fail
  try clear k5_0 k5_1 k9_0 k9_1
  go_at_call 13
  refine (laws_toIntSS.calls k A0 c0 l0 x9 _ (Kd.C_below HR0.out (by repeat (first | exact HB.out | apply pw_below_drewN | apply below_drew1))) HL0.out H100.out).mono ?_
  rintro e w8 ⟨v59, rfl, hF60, hb⟩
  have HB2 := Aside0.mk (below_next (N := hi132) (by repeat (first | exact HB.out | apply pw_below_drewN | apply below_drew1)) (by exact HN.out) (by have := O118.out; have := O121.out; have := O124.out; have := O127.out; have := O130.out; have := O133.out; omega) hb)
  replace F13 := Aside0.mk (show Kd.R (Kd.int .i64) 3 w8 w.heap.size (fun k_ => (lo119 ≤ k_ ∧ k_ < hi120) ∧ some k_ ≠ (.slice A16 x29.length c17 : Value).ownBlock ∧ some k_ ≠ (.slice A22 x30.length c23 : Value).ownBlock) (.slice A10 x28.length c11) x28 from Kd.R_below (by (with_reducible repeat (first | apply Kd.R_drewN | apply Kd.R_drew)); exact F13.out) hb)
  replace HC14 := Aside0.mk (show Kd.C (Kd.int .i64) w8 A10 x28.length x28 from Kd.C_below (by (with_reducible repeat (first | apply Kd.C_drewN | apply Kd.C_drew)); exact HC14.out) hb)
  replace F19 := Aside0.mk (show Kd.R (Kd.int .i64) 3 w8 w.heap.size (fun k_ => (lo119 ≤ k_ ∧ k_ < hi120) ∧ some k_ ≠ (.slice A10 x28.length c11 : Value).ownBlock ∧ some k_ ≠ (.slice A22 x30.length c23 : Value).ownBlock) (.slice A16 x29.length c17) x29 from Kd.R_below (by (with_reducible repeat (first | apply Kd.R_drewN | apply Kd.R_drew)); exact F19.out) hb)
  replace HC20 := Aside0.mk (show Kd.C (Kd.int .i64) w8 A16 x29.length x29 from Kd.C_below (by (with_reducible repeat (first | apply Kd.C_drewN | apply Kd.C_drew)); exact HC20.out) hb)
  replace F25 := Aside0.mk (show Kd.R (Kd.int .i64) 3 w8 w.heap.size (fun k_ => (lo119 ≤ k_ ∧ k_ < hi120) ∧ some k_ ≠ (.slice A10 x28.length c11 : Value).ownBlock ∧ some k_ ≠ (.slice A16 x29.length c17 : Value).ownBlock) (.slice A22 x30.length c23) x30 from Kd.R_below (by (with_reducible repeat (first | apply Kd.R_drewN | apply Kd.R_drew)); exact F25.out) hb)
  replace HC26 := Aside0.mk (show Kd.C (Kd.int .i64) w8 A22 x30.length x30 from Kd.C_below (by (with_reducible repeat (first | apply Kd.C_drewN | apply Kd.C_drew)); exact HC26.out) hb)
  replace F35 := Aside0.mk (show Kd.S (Kd.slice 3 (Kd.int .i64)) 27 w8 w.heap.size (fun k_ => (lo125 ≤ k_ ∧ k_ < hi126) ∧ True) (.slice A32 x9.length c33) x9 from Kd.S_below (by (with_reducible repeat (first | apply Kd.S_drewN | apply Kd.S_drew)); exact F35.out) hb)
  replace HC36 := Aside0.mk (show Kd.C (Kd.slice 3 (Kd.int .i64)) w8 A32 x9.length x9 from Kd.C_below (by (with_reducible repeat (first | apply Kd.C_drewN | apply Kd.C_drew)); exact HC36.out) hb)
  replace F41 := Aside0.mk (show Kd.R (Kd.int .i64) 3 w8 w.heap.size (fun k_ => (lo128 ≤ k_ ∧ k_ < hi129) ∧ some k_ ≠ (.slice A44 x29.length c45 : Value).ownBlock ∧ some k_ ≠ (.slice A50 x30.length c51 : Value).ownBlock) (.slice A38 x28.length c39) x28 from Kd.R_below (by (with_reducible repeat (first | apply Kd.R_drewN | apply Kd.R_drew)); exact F41.out) hb)
  replace HC42 := Aside0.mk (show Kd.C (Kd.int .i64) w8 A38 x28.length x28 from Kd.C_below (by (with_reducible repeat (first | apply Kd.C_drewN | apply Kd.C_drew)); exact HC42.out) hb)
  replace F47 := Aside0.mk (show Kd.R (Kd.int .i64) 3 w8 w.heap.size (fun k_ => (lo128 ≤ k_ ∧ k_ < hi129) ∧ some k_ ≠ (.slice A38 x28.length c39 : Value).ownBlock ∧ some k_ ≠ (.slice A50 x30.length c51 : Value).ownBlock) (.slice A44 x29.length c45) x29 from Kd.R_below (by (with_reducible repeat (first | apply Kd.R_drewN | apply Kd.R_drew)); exact F47.out) hb)
  replace HC48 := Aside0.mk (show Kd.C (Kd.int .i64) w8 A44 x29.length x29 from Kd.C_below (by (with_reducible repeat (first | apply Kd.C_drewN | apply Kd.C_drew)); exact HC48.out) hb)
  replace F53 := Aside0.mk (show Kd.R (Kd.int .i64) 3 w8 w.heap.size (fun k_ => (lo128 ≤ k_ ∧ k_ < hi129) ∧ some k_ ≠ (.slice A38 x28.length c39 : Value).ownBlock ∧ some k_ ≠ (.slice A44 x29.length c45 : Value).ownBlock) (.slice A50 x30.length c51) x30 from Kd.R_below (by (with_reducible repeat (first | apply Kd.R_drewN | apply Kd.R_drew)); exact F53.out) hb)
  replace HC54 := Aside0.mk (show Kd.C (Kd.int .i64) w8 A50 x30.length x30 from Kd.C_below (by (with_reducible repeat (first | apply Kd.C_drewN | apply Kd.C_drew)); exact HC54.out) hb)
  replace BK5 := Aside0.mk (show w8.heap[gb5]? = some (.cells #[.slice A16 x29.length c17, .slice A22 x30.length c23] 33 (0, 0)) from blk_below (by (with_reducible repeat (first | refine blk_drewN ?_ _ | refine blk_drew ?_)); exact BK5.out) hb)
  replace BK9 := Aside0.mk (show w8.heap[gb9]? = some (.cells #[.slice A44 x29.length c45, .slice A50 x30.length c51] 33 (0, 0)) from blk_below (by (with_reducible repeat (first | refine blk_drewN ?_ _ | refine blk_drew ?_)); exact BK9.out) hb)
  obtain ⟨lo136, hi137, ho, hg⟩ := fresh_pts (N := hi132) hb (by exact HN.out)
  have O138 := Aside0.mk (show hi132 ≤ lo136 ∧ lo136 ≤ hi137 from ⟨ho.1, ho.2.1⟩)
  have hF60b := S_in hF60 hg (B := w.heap.size) (by have := O118.out; have := O121.out; have := O124.out; have := O127.out; have := O130.out; have := O133.out; have := O138.out; omega)
  obtain ⟨A57, c58, rfl, hle, hC⟩ := Kd.S_reads hF60b
  have HC61 := Aside0.mk hC
  have HL62 := Aside0.mk hle
  clear hle hC
  have F60 := Aside0.mk (show Kd.S (Kd.slice 3 (Kd.int .i64)) 27 w8 w.heap.size (fun k_ => (lo136 ≤ k_ ∧ k_ < hi137) ∧ True) (.slice A57 x9.length c58) x9 from hF60b)
  clear hF60 hF60b
  replace HN := Aside0.mk (show hi137 ≤ w8.heap.size from ho.2.2)
  clear ho hg
  replace HB := HB2
  clear HB2 hb
  go_wp2_with fail
  go_at_call 15
  refine (laws_eqIntSS.calls k A32 c33 x9 A57 c58 x9 true _ (by (with_reducible repeat (first | apply Kd.C_drewN | apply Kd.C_drew)); exact HC36.out) HL37.out (by (with_reducible repeat (first | apply Kd.C_drewN | apply Kd.C_drew)); exact HC61.out) HL62.out H105.out).mono ?_
  rintro e w_139 ⟨rfl, ⟨nd140, rfl⟩⟩
  clear F60 HC61
  go_wp2_with fail
  go_at_call 25
  refine (laws_markIntSS.marks (fun k_ => (lo125 ≤ k_ ∧ k_ < hi126) ∧ True) (.slice A32 x9.length c33) x9 1 t63 x64 w _ (by repeat (first | exact HB.out | apply pw_below_drewN | apply below_drew1)) (by (with_reducible repeat (first | apply Kd.S_drewN | apply Kd.S_drew)); exact F35.out) H106.out).mono ?_
  rintro e w9 ⟨rfl, hF0, hB2, hK⟩
  replace F13 := Aside0.mk (show Kd.R (Kd.int .i64) 3 w9 w.heap.size (fun k_ => (lo119 ≤ k_ ∧ k_ < hi120) ∧ some k_ ≠ (.slice A16 x29.length c17 : Value).ownBlock ∧ some k_ ≠ (.slice A22 x30.length c23 : Value).ownBlock) (.slice A10 x28.length c11) x28 from Kd.R_kept (S := (fun k_ => (lo125 ≤ k_ ∧ k_ < hi126) ∧ True)) (by (with_reducible repeat (first | apply Kd.R_drewN | apply Kd.R_drew)); exact F13.out) hK (fun k_ h1_ h2_ => by have h3_ := h1_.1; have h4_ := h2_.1; have := O118.out; have := O121.out; have := O124.out; have := O127.out; have := O130.out; have := O133.out; have := O138.out; omega))
  replace HC14 := Aside0.mk (show Kd.C (Kd.int .i64) w9 A10 x28.length x28 from (Kd.R_reads' F13.out).2.2)
  replace F19 := Aside0.mk (show Kd.R (Kd.int .i64) 3 w9 w.heap.size (fun k_ => (lo119 ≤ k_ ∧ k_ < hi120) ∧ some k_ ≠ (.slice A10 x28.length c11 : Value).ownBlock ∧ some k_ ≠ (.slice A22 x30.length c23 : Value).ownBlock) (.slice A16 x29.length c17) x29 from Kd.R_kept (S := (fun k_ => (lo125 ≤ k_ ∧ k_ < hi126) ∧ True)) (by (with_reducible repeat (first | apply Kd.R_drewN | apply Kd.R_drew)); exact F19.out) hK (fun k_ h1_ h2_ => by have h3_ := h1_.1; have h4_ := h2_.1; have := O118.out; have := O121.out; have := O124.out; have := O127.out; have := O130.out; have := O133.out; have := O138.out; omega))
  replace HC20 := Aside0.mk (show Kd.C (Kd.int .i64) w9 A16 x29.length x29 from (Kd.R_reads' F19.out).2.2)
  replace F25 := Aside0.mk (show Kd.R (Kd.int .i64) 3 w9 w.heap.size (fun k_ => (lo119 ≤ k_ ∧ k_ < hi120) ∧ some k_ ≠ (.slice A10 x28.length c11 : Value).ownBlock ∧ some k_ ≠ (.slice A16 x29.length c17 : Value).ownBlock) (.slice A22 x30.length c23) x30 from Kd.R_kept (S := (fun k_ => (lo125 ≤ k_ ∧ k_ < hi126) ∧ True)) (by (with_reducible repeat (first | apply Kd.R_drewN | apply Kd.R_drew)); exact F25.out) hK (fun k_ h1_ h2_ => by have h3_ := h1_.1; have h4_ := h2_.1; have := O118.out; have := O121.out; have := O124.out; have := O127.out; have := O130.out; have := O133.out; have := O138.out; omega))
  replace HC26 := Aside0.mk (show Kd.C (Kd.int .i64) w9 A22 x30.length x30 from (Kd.R_reads' F25.out).2.2)
  replace F41 := Aside0.mk (show Kd.R (Kd.int .i64) 3 w9 w.heap.size (fun k_ => (lo128 ≤ k_ ∧ k_ < hi129) ∧ some k_ ≠ (.slice A44 x29.length c45 : Value).ownBlock ∧ some k_ ≠ (.slice A50 x30.length c51 : Value).ownBlock) (.slice A38 x28.length c39) x28 from Kd.R_kept (S := (fun k_ => (lo125 ≤ k_ ∧ k_ < hi126) ∧ True)) (by (with_reducible repeat (first | apply Kd.R_drewN | apply Kd.R_drew)); exact F41.out) hK (fun k_ h1_ h2_ => by have h3_ := h1_.1; have h4_ := h2_.1; have := O118.out; have := O121.out; have := O124.out; have := O127.out; have := O130.out; have := O133.out; have := O138.out; omega))
  replace HC42 := Aside0.mk (show Kd.C (Kd.int .i64) w9 A38 x28.length x28 from (Kd.R_reads' F41.out).2.2)
  replace F47 := Aside0.mk (show Kd.R (Kd.int .i64) 3 w9 w.heap.size (fun k_ => (lo128 ≤ k_ ∧ k_ < hi129) ∧ some k_ ≠ (.slice A38 x28.length c39 : Value).ownBlock ∧ some k_ ≠ (.slice A50 x30.length c51 : Value).ownBlock) (.slice A44 x29.length c45) x29 from Kd.R_kept (S := (fun k_ => (lo125 ≤ k_ ∧ k_ < hi126) ∧ True)) (by (with_reducible repeat (first | apply Kd.R_drewN | apply Kd.R_drew)); exact F47.out) hK (fun k_ h1_ h2_ => by have h3_ := h1_.1; have h4_ := h2_.1; have := O118.out; have := O121.out; have := O124.out; have := O127.out; have := O130.out; have := O133.out; have := O138.out; omega))
  replace HC48 := Aside0.mk (show Kd.C (Kd.int .i64) w9 A44 x29.length x29 from (Kd.R_reads' F47.out).2.2)
  replace F53 := Aside0.mk (show Kd.R (Kd.int .i64) 3 w9 w.heap.size (fun k_ => (lo128 ≤ k_ ∧ k_ < hi129) ∧ some k_ ≠ (.slice A38 x28.length c39 : Value).ownBlock ∧ some k_ ≠ (.slice A44 x29.length c45 : Value).ownBlock) (.slice A50 x30.length c51) x30 from Kd.R_kept (S := (fun k_ => (lo125 ≤ k_ ∧ k_ < hi126) ∧ True)) (by (with_reducible repeat (first | apply Kd.R_drewN | apply Kd.R_drew)); exact F53.out) hK (fun k_ h1_ h2_ => by have h3_ := h1_.1; have h4_ := h2_.1; have := O118.out; have := O121.out; have := O124.out; have := O127.out; have := O130.out; have := O133.out; have := O138.out; omega))
  replace HC54 := Aside0.mk (show Kd.C (Kd.int .i64) w9 A50 x30.length x30 from (Kd.R_reads' F53.out).2.2)
  replace BK5 := Aside0.mk (show w9.heap[gb5]? = some (.cells #[.slice A16 x29.length c17, .slice A22 x30.length c23] 33 (0, 0)) from blk_kept (by (with_reducible repeat (first | refine blk_drewN ?_ _ | refine blk_drew ?_)); exact BK5.out) hK (fun h_ => by have h3_ := h_.1; have := EG5.out; have := O118.out; have := O121.out; have := O124.out; have := O127.out; have := O130.out; have := O133.out; have := O138.out; omega))
  replace BK9 := Aside0.mk (show w9.heap[gb9]? = some (.cells #[.slice A44 x29.length c45, .slice A50 x30.length c51] 33 (0, 0)) from blk_kept (by (with_reducible repeat (first | refine blk_drewN ?_ _ | refine blk_drew ?_)); exact BK9.out) hK (fun h_ => by have h3_ := h_.1; have := EG9.out; have := O118.out; have := O121.out; have := O124.out; have := O127.out; have := O130.out; have := O133.out; have := O138.out; omega))
  clear F35 HC36
  replace HN := Aside0.mk (show hi137 ≤ w9.heap.size from Nat.le_trans HN.out hK.1)
  replace HB := Aside0.mk hB2
  clear hB2 hK hF0
  have d142 : decide (t63 < 0) = false := decide_eq_false (by have := H107.out; omega)
  have k5_0 : World.cell? _ ⟨gb5, 0, none⟩ = some (.slice A16 x29.length c17) := (blk_cell BK5.out 0).trans rfl
  have k5_1 : World.cell? _ ⟨gb5, 1, none⟩ = some (.slice A22 x30.length c23) := (blk_cell BK5.out 1).trans rfl
  have k9_0 : World.cell? _ ⟨gb9, 0, none⟩ = some (.slice A44 x29.length c45) := (blk_cell BK9.out 0).trans rfl
  have k9_1 : World.cell? _ ⟨gb9, 1, none⟩ = some (.slice A50 x30.length c51) := (blk_cell BK9.out 1).trans rfl
  go_wp2_with fail
  try clear k5_0 k5_1 k9_0 k9_1
  go_at_call 35
  refine (laws_eqIntS.calls k A38 c39 x28 A10 c11 x28 true _ (by (with_reducible repeat (first | apply Kd.C_drewN | apply Kd.C_drew)); exact HC42.out) HL43.out (by (with_reducible repeat (first | apply Kd.C_drewN | apply Kd.C_drew)); exact HC14.out) HL15.out H103.out).mono ?_
  rintro e w_143 ⟨rfl, ⟨nd144, rfl⟩⟩
  have k5_0 : World.cell? _ ⟨gb5, 0, none⟩ = some (.slice A16 x29.length c17) := (blk_cell BK5.out 0).trans rfl
  have k5_1 : World.cell? _ ⟨gb5, 1, none⟩ = some (.slice A22 x30.length c23) := (blk_cell BK5.out 1).trans rfl
  have k9_0 : World.cell? _ ⟨gb9, 0, none⟩ = some (.slice A44 x29.length c45) := (blk_cell BK9.out 0).trans rfl
  have k9_1 : World.cell? _ ⟨gb9, 1, none⟩ = some (.slice A50 x30.length c51) := (blk_cell BK9.out 1).trans rfl
  go_wp2_with fail
  try clear k5_0 k5_1 k9_0 k9_1
  go_at_call 20
  refine (laws_eqPrices.calls k A44 c45 x29 A50 c51 x30 A16 c17 x29 A22 c23 x30 true _ (by (with_reducible repeat (first | apply Kd.C_drewN | apply Kd.C_drew)); exact HC48.out) HL49.out (by (with_reducible repeat (first | apply Kd.C_drewN | apply Kd.C_drew)); exact HC54.out) HL55.out (by (with_reducible repeat (first | apply Kd.C_drewN | apply Kd.C_drew)); exact HC20.out) HL21.out (by (with_reducible repeat (first | apply Kd.C_drewN | apply Kd.C_drew)); exact HC26.out) HL27.out H104.out).mono ?_
  rintro e w10 ⟨rfl, hb⟩
  have HB2 := Aside0.mk (below_next (N := hi137) (by repeat (first | exact HB.out | apply pw_below_drewN | apply below_drew1)) (by exact HN.out) (by have := O118.out; have := O121.out; have := O124.out; have := O127.out; have := O130.out; have := O133.out; have := O138.out; omega) hb)
  replace F13 := Aside0.mk (show Kd.R (Kd.int .i64) 3 w10 w.heap.size (fun k_ => (lo119 ≤ k_ ∧ k_ < hi120) ∧ some k_ ≠ (.slice A16 x29.length c17 : Value).ownBlock ∧ some k_ ≠ (.slice A22 x30.length c23 : Value).ownBlock) (.slice A10 x28.length c11) x28 from Kd.R_below (by (with_reducible repeat (first | apply Kd.R_drewN | apply Kd.R_drew)); exact F13.out) hb)
  replace HC14 := Aside0.mk (show Kd.C (Kd.int .i64) w10 A10 x28.length x28 from Kd.C_below (by (with_reducible repeat (first | apply Kd.C_drewN | apply Kd.C_drew)); exact HC14.out) hb)
  replace F19 := Aside0.mk (show Kd.R (Kd.int .i64) 3 w10 w.heap.size (fun k_ => (lo119 ≤ k_ ∧ k_ < hi120) ∧ some k_ ≠ (.slice A10 x28.length c11 : Value).ownBlock ∧ some k_ ≠ (.slice A22 x30.length c23 : Value).ownBlock) (.slice A16 x29.length c17) x29 from Kd.R_below (by (with_reducible repeat (first | apply Kd.R_drewN | apply Kd.R_drew)); exact F19.out) hb)
  replace HC20 := Aside0.mk (show Kd.C (Kd.int .i64) w10 A16 x29.length x29 from Kd.C_below (by (with_reducible repeat (first | apply Kd.C_drewN | apply Kd.C_drew)); exact HC20.out) hb)
  replace F25 := Aside0.mk (show Kd.R (Kd.int .i64) 3 w10 w.heap.size (fun k_ => (lo119 ≤ k_ ∧ k_ < hi120) ∧ some k_ ≠ (.slice A10 x28.length c11 : Value).ownBlock ∧ some k_ ≠ (.slice A16 x29.length c17 : Value).ownBlock) (.slice A22 x30.length c23) x30 from Kd.R_below (by (with_reducible repeat (first | apply Kd.R_drewN | apply Kd.R_drew)); exact F25.out) hb)
  replace HC26 := Aside0.mk (show Kd.C (Kd.int .i64) w10 A22 x30.length x30 from Kd.C_below (by (with_reducible repeat (first | apply Kd.C_drewN | apply Kd.C_drew)); exact HC26.out) hb)
  replace F41 := Aside0.mk (show Kd.R (Kd.int .i64) 3 w10 w.heap.size (fun k_ => (lo128 ≤ k_ ∧ k_ < hi129) ∧ some k_ ≠ (.slice A44 x29.length c45 : Value).ownBlock ∧ some k_ ≠ (.slice A50 x30.length c51 : Value).ownBlock) (.slice A38 x28.length c39) x28 from Kd.R_below (by (with_reducible repeat (first | apply Kd.R_drewN | apply Kd.R_drew)); exact F41.out) hb)
  replace HC42 := Aside0.mk (show Kd.C (Kd.int .i64) w10 A38 x28.length x28 from Kd.C_below (by (with_reducible repeat (first | apply Kd.C_drewN | apply Kd.C_drew)); exact HC42.out) hb)
  replace F47 := Aside0.mk (show Kd.R (Kd.int .i64) 3 w10 w.heap.size (fun k_ => (lo128 ≤ k_ ∧ k_ < hi129) ∧ some k_ ≠ (.slice A38 x28.length c39 : Value).ownBlock ∧ some k_ ≠ (.slice A50 x30.length c51 : Value).ownBlock) (.slice A44 x29.length c45) x29 from Kd.R_below (by (with_reducible repeat (first | apply Kd.R_drewN | apply Kd.R_drew)); exact F47.out) hb)
  replace HC48 := Aside0.mk (show Kd.C (Kd.int .i64) w10 A44 x29.length x29 from Kd.C_below (by (with_reducible repeat (first | apply Kd.C_drewN | apply Kd.C_drew)); exact HC48.out) hb)
  replace F53 := Aside0.mk (show Kd.R (Kd.int .i64) 3 w10 w.heap.size (fun k_ => (lo128 ≤ k_ ∧ k_ < hi129) ∧ some k_ ≠ (.slice A38 x28.length c39 : Value).ownBlock ∧ some k_ ≠ (.slice A44 x29.length c45 : Value).ownBlock) (.slice A50 x30.length c51) x30 from Kd.R_below (by (with_reducible repeat (first | apply Kd.R_drewN | apply Kd.R_drew)); exact F53.out) hb)
  replace HC54 := Aside0.mk (show Kd.C (Kd.int .i64) w10 A50 x30.length x30 from Kd.C_below (by (with_reducible repeat (first | apply Kd.C_drewN | apply Kd.C_drew)); exact HC54.out) hb)
  replace BK5 := Aside0.mk (show w10.heap[gb5]? = some (.cells #[.slice A16 x29.length c17, .slice A22 x30.length c23] 33 (0, 0)) from blk_below (by (with_reducible repeat (first | refine blk_drewN ?_ _ | refine blk_drew ?_)); exact BK5.out) hb)
  replace BK9 := Aside0.mk (show w10.heap[gb9]? = some (.cells #[.slice A44 x29.length c45, .slice A50 x30.length c51] 33 (0, 0)) from blk_below (by (with_reducible repeat (first | refine blk_drewN ?_ _ | refine blk_drew ?_)); exact BK9.out) hb)
  replace HN := Aside0.mk (show hi137 ≤ w10.heap.size from Nat.le_trans HN.out hb.size)
  replace HB := HB2
  clear HB2 hb
  have k5_0 : World.cell? _ ⟨gb5, 0, none⟩ = some (.slice A16 x29.length c17) := (blk_cell BK5.out 0).trans rfl
  have k5_1 : World.cell? _ ⟨gb5, 1, none⟩ = some (.slice A22 x30.length c23) := (blk_cell BK5.out 1).trans rfl
  have k9_0 : World.cell? _ ⟨gb9, 0, none⟩ = some (.slice A44 x29.length c45) := (blk_cell BK9.out 0).trans rfl
  have k9_1 : World.cell? _ ⟨gb9, 1, none⟩ = some (.slice A50 x30.length c51) := (blk_cell BK9.out 1).trans rfl
  go_wp2_with fail
  try clear k5_0 k5_1 k9_0 k9_1
  go_at_call 36
  refine (laws_markIntS.calls k (fun k_ => some k_ = (.slice A38 x28.length c39 : Value).ownBlock) (.slice A38 x28.length c39) x28 1 t65 x66 w _ (by repeat (first | exact HB.out | apply pw_below_drewN | apply below_drew1)) (Kd.R_tight rfl (by (with_reducible repeat (first | apply Kd.R_drewN | apply Kd.R_drew)); exact F41.out)) H108.out).mono ?_
  rintro e w11 ⟨rfl, hF0, hB2, hK⟩
  replace F13 := Aside0.mk (show Kd.R (Kd.int .i64) 3 w11 w.heap.size (fun k_ => (lo119 ≤ k_ ∧ k_ < hi120) ∧ some k_ ≠ (.slice A16 x29.length c17 : Value).ownBlock ∧ some k_ ≠ (.slice A22 x30.length c23 : Value).ownBlock) (.slice A10 x28.length c11) x28 from Kd.R_kept (S := (fun k_ => some k_ = (.slice A38 x28.length c39 : Value).ownBlock)) (by (with_reducible repeat (first | apply Kd.R_drewN | apply Kd.R_drew)); exact F13.out) hK (fun k_ h1_ h2_ => (fun e_ => by have h3_ := h1_.1; have h4_ := (F41.out.1 k_ e_.symm).1; have := O118.out; have := O121.out; have := O124.out; have := O127.out; have := O130.out; have := O133.out; have := O138.out; omega) h2_))
  replace HC14 := Aside0.mk (show Kd.C (Kd.int .i64) w11 A10 x28.length x28 from (Kd.R_reads' F13.out).2.2)
  replace F19 := Aside0.mk (show Kd.R (Kd.int .i64) 3 w11 w.heap.size (fun k_ => (lo119 ≤ k_ ∧ k_ < hi120) ∧ some k_ ≠ (.slice A10 x28.length c11 : Value).ownBlock ∧ some k_ ≠ (.slice A22 x30.length c23 : Value).ownBlock) (.slice A16 x29.length c17) x29 from Kd.R_kept (S := (fun k_ => some k_ = (.slice A38 x28.length c39 : Value).ownBlock)) (by (with_reducible repeat (first | apply Kd.R_drewN | apply Kd.R_drew)); exact F19.out) hK (fun k_ h1_ h2_ => (fun e_ => by have h3_ := h1_.1; have h4_ := (F41.out.1 k_ e_.symm).1; have := O118.out; have := O121.out; have := O124.out; have := O127.out; have := O130.out; have := O133.out; have := O138.out; omega) h2_))
  replace HC20 := Aside0.mk (show Kd.C (Kd.int .i64) w11 A16 x29.length x29 from (Kd.R_reads' F19.out).2.2)
  replace F25 := Aside0.mk (show Kd.R (Kd.int .i64) 3 w11 w.heap.size (fun k_ => (lo119 ≤ k_ ∧ k_ < hi120) ∧ some k_ ≠ (.slice A10 x28.length c11 : Value).ownBlock ∧ some k_ ≠ (.slice A16 x29.length c17 : Value).ownBlock) (.slice A22 x30.length c23) x30 from Kd.R_kept (S := (fun k_ => some k_ = (.slice A38 x28.length c39 : Value).ownBlock)) (by (with_reducible repeat (first | apply Kd.R_drewN | apply Kd.R_drew)); exact F25.out) hK (fun k_ h1_ h2_ => (fun e_ => by have h3_ := h1_.1; have h4_ := (F41.out.1 k_ e_.symm).1; have := O118.out; have := O121.out; have := O124.out; have := O127.out; have := O130.out; have := O133.out; have := O138.out; omega) h2_))
  replace HC26 := Aside0.mk (show Kd.C (Kd.int .i64) w11 A22 x30.length x30 from (Kd.R_reads' F25.out).2.2)
  replace F47 := Aside0.mk (show Kd.R (Kd.int .i64) 3 w11 w.heap.size (fun k_ => (lo128 ≤ k_ ∧ k_ < hi129) ∧ some k_ ≠ (.slice A38 x28.length c39 : Value).ownBlock ∧ some k_ ≠ (.slice A50 x30.length c51 : Value).ownBlock) (.slice A44 x29.length c45) x29 from Kd.R_kept (S := (fun k_ => some k_ = (.slice A38 x28.length c39 : Value).ownBlock)) (by (with_reducible repeat (first | apply Kd.R_drewN | apply Kd.R_drew)); exact F47.out) hK (fun k_ h1_ h2_ => (fun e_ => h1_.2.1 e_) h2_))
  replace HC48 := Aside0.mk (show Kd.C (Kd.int .i64) w11 A44 x29.length x29 from (Kd.R_reads' F47.out).2.2)
  replace F53 := Aside0.mk (show Kd.R (Kd.int .i64) 3 w11 w.heap.size (fun k_ => (lo128 ≤ k_ ∧ k_ < hi129) ∧ some k_ ≠ (.slice A38 x28.length c39 : Value).ownBlock ∧ some k_ ≠ (.slice A44 x29.length c45 : Value).ownBlock) (.slice A50 x30.length c51) x30 from Kd.R_kept (S := (fun k_ => some k_ = (.slice A38 x28.length c39 : Value).ownBlock)) (by (with_reducible repeat (first | apply Kd.R_drewN | apply Kd.R_drew)); exact F53.out) hK (fun k_ h1_ h2_ => (fun e_ => h1_.2.1 e_) h2_))
  replace HC54 := Aside0.mk (show Kd.C (Kd.int .i64) w11 A50 x30.length x30 from (Kd.R_reads' F53.out).2.2)
  replace BK5 := Aside0.mk (show w11.heap[gb5]? = some (.cells #[.slice A16 x29.length c17, .slice A22 x30.length c23] 33 (0, 0)) from blk_kept (by (with_reducible repeat (first | refine blk_drewN ?_ _ | refine blk_drew ?_)); exact BK5.out) hK (fun h_ => (fun e_ => by have h4_ := (F41.out.1 gb5 e_.symm).1; have := EG5.out; have := O118.out; have := O121.out; have := O124.out; have := O127.out; have := O130.out; have := O133.out; have := O138.out; omega) h_))
  replace BK9 := Aside0.mk (show w11.heap[gb9]? = some (.cells #[.slice A44 x29.length c45, .slice A50 x30.length c51] 33 (0, 0)) from blk_kept (by (with_reducible repeat (first | refine blk_drewN ?_ _ | refine blk_drew ?_)); exact BK9.out) hK (fun h_ => (fun e_ => by have h4_ := (F41.out.1 gb9 e_.symm).1; have := EG9.out; have := O118.out; have := O121.out; have := O124.out; have := O127.out; have := O130.out; have := O133.out; have := O138.out; omega) h_))
  replace F41 := Aside0.mk (show Kd.R (Kd.int .i64) 3 w11 w.heap.size (fun k_ => (lo128 ≤ k_ ∧ k_ < hi129) ∧ some k_ ≠ (.slice A44 x29.length c45 : Value).ownBlock ∧ some k_ ≠ (.slice A50 x30.length c51 : Value).ownBlock) (.slice A38 x28.length c39) x66 from Kd.R_mono (Kd.R_tight rfl hF0) (fun k_ hk_ => F41.out.1 k_ hk_.symm))
  replace HC42 := Aside0.mk (show Kd.C (Kd.int .i64) w11 A38 x66.length x66 from (Kd.R_reads' F41.out).2.2)
  have HQ145 := Aside0.mk (show x28.length = x66.length from (Kd.R_reads' F41.out).1)
  replace HL43 := Aside0.mk (show x66.length ≤ c39 from by rw [← HQ145.out]; exact HL43.out)
  replace HN := Aside0.mk (show hi137 ≤ w11.heap.size from Nat.le_trans HN.out hK.1)
  replace HB := Aside0.mk hB2
  clear hB2 hK hF0
  have k9_0 : World.cell? _ ⟨gb9, 0, none⟩ = some (.slice A44 x29.length c45) := (blk_cell BK9.out 0).trans rfl
  have k9_1 : World.cell? _ ⟨gb9, 1, none⟩ = some (.slice A50 x30.length c51) := (blk_cell BK9.out 1).trans rfl
  go_wp2_with fail
  try clear k9_0 k9_1
  go_at_call 30
  refine (laws_markPrices.calls k (fun k_ => some k_ = (.slice A44 x29.length c45 : Value).ownBlock) (.slice A44 x29.length c45) x29 (fun k_ => some k_ = (.slice A50 x30.length c51 : Value).ownBlock) (.slice A50 x30.length c51) x30 t65 t67 x68 x69 w _ (by repeat (first | exact HB.out | apply pw_below_drewN | apply below_drew1)) (Kd.R_tight rfl (by (with_reducible repeat (first | apply Kd.R_drewN | apply Kd.R_drew)); exact F47.out)) (fun k_ h1_ h2_ => (F47.out.1 k_ h1_.symm).2.2 h2_) (Kd.R_tight rfl (by (with_reducible repeat (first | apply Kd.R_drewN | apply Kd.R_drew)); exact F53.out)) (fun k_ h1_ h2_ => (F53.out.1 k_ h1_.symm).2.2 h2_) H109.out).mono ?_
  rintro e w12 ⟨rfl, hF0, hF1, hB2, hK⟩
  replace F13 := Aside0.mk (show Kd.R (Kd.int .i64) 3 w12 w.heap.size (fun k_ => (lo119 ≤ k_ ∧ k_ < hi120) ∧ some k_ ≠ (.slice A16 x29.length c17 : Value).ownBlock ∧ some k_ ≠ (.slice A22 x30.length c23 : Value).ownBlock) (.slice A10 x28.length c11) x28 from Kd.R_kept (S := (fun k_ => some k_ = (.slice A44 x29.length c45 : Value).ownBlock ∨ some k_ = (.slice A50 x30.length c51 : Value).ownBlock)) (by (with_reducible repeat (first | apply Kd.R_drewN | apply Kd.R_drew)); exact F13.out) hK (fun k_ h1_ h2_ => Or.elim h2_ (fun e_ => by have h3_ := h1_.1; have h4_ := (F47.out.1 k_ e_.symm).1; have := O118.out; have := O121.out; have := O124.out; have := O127.out; have := O130.out; have := O133.out; have := O138.out; omega) (fun e_ => (fun e_ => by have h3_ := h1_.1; have h4_ := (F53.out.1 k_ e_.symm).1; have := O118.out; have := O121.out; have := O124.out; have := O127.out; have := O130.out; have := O133.out; have := O138.out; omega) e_)))
  replace HC14 := Aside0.mk (show Kd.C (Kd.int .i64) w12 A10 x28.length x28 from (Kd.R_reads' F13.out).2.2)
  replace F19 := Aside0.mk (show Kd.R (Kd.int .i64) 3 w12 w.heap.size (fun k_ => (lo119 ≤ k_ ∧ k_ < hi120) ∧ some k_ ≠ (.slice A10 x28.length c11 : Value).ownBlock ∧ some k_ ≠ (.slice A22 x30.length c23 : Value).ownBlock) (.slice A16 x29.length c17) x29 from Kd.R_kept (S := (fun k_ => some k_ = (.slice A44 x29.length c45 : Value).ownBlock ∨ some k_ = (.slice A50 x30.length c51 : Value).ownBlock)) (by (with_reducible repeat (first | apply Kd.R_drewN | apply Kd.R_drew)); exact F19.out) hK (fun k_ h1_ h2_ => Or.elim h2_ (fun e_ => by have h3_ := h1_.1; have h4_ := (F47.out.1 k_ e_.symm).1; have := O118.out; have := O121.out; have := O124.out; have := O127.out; have := O130.out; have := O133.out; have := O138.out; omega) (fun e_ => (fun e_ => by have h3_ := h1_.1; have h4_ := (F53.out.1 k_ e_.symm).1; have := O118.out; have := O121.out; have := O124.out; have := O127.out; have := O130.out; have := O133.out; have := O138.out; omega) e_)))
  replace HC20 := Aside0.mk (show Kd.C (Kd.int .i64) w12 A16 x29.length x29 from (Kd.R_reads' F19.out).2.2)
  replace F25 := Aside0.mk (show Kd.R (Kd.int .i64) 3 w12 w.heap.size (fun k_ => (lo119 ≤ k_ ∧ k_ < hi120) ∧ some k_ ≠ (.slice A10 x28.length c11 : Value).ownBlock ∧ some k_ ≠ (.slice A16 x29.length c17 : Value).ownBlock) (.slice A22 x30.length c23) x30 from Kd.R_kept (S := (fun k_ => some k_ = (.slice A44 x29.length c45 : Value).ownBlock ∨ some k_ = (.slice A50 x30.length c51 : Value).ownBlock)) (by (with_reducible repeat (first | apply Kd.R_drewN | apply Kd.R_drew)); exact F25.out) hK (fun k_ h1_ h2_ => Or.elim h2_ (fun e_ => by have h3_ := h1_.1; have h4_ := (F47.out.1 k_ e_.symm).1; have := O118.out; have := O121.out; have := O124.out; have := O127.out; have := O130.out; have := O133.out; have := O138.out; omega) (fun e_ => (fun e_ => by have h3_ := h1_.1; have h4_ := (F53.out.1 k_ e_.symm).1; have := O118.out; have := O121.out; have := O124.out; have := O127.out; have := O130.out; have := O133.out; have := O138.out; omega) e_)))
  replace HC26 := Aside0.mk (show Kd.C (Kd.int .i64) w12 A22 x30.length x30 from (Kd.R_reads' F25.out).2.2)
  replace F41 := Aside0.mk (show Kd.R (Kd.int .i64) 3 w12 w.heap.size (fun k_ => (lo128 ≤ k_ ∧ k_ < hi129) ∧ some k_ ≠ (.slice A44 x29.length c45 : Value).ownBlock ∧ some k_ ≠ (.slice A50 x30.length c51 : Value).ownBlock) (.slice A38 x28.length c39) x66 from Kd.R_kept (S := (fun k_ => some k_ = (.slice A44 x29.length c45 : Value).ownBlock ∨ some k_ = (.slice A50 x30.length c51 : Value).ownBlock)) (by (with_reducible repeat (first | apply Kd.R_drewN | apply Kd.R_drew)); exact F41.out) hK (fun k_ h1_ h2_ => Or.elim h2_ (fun e_ => h1_.2.1 e_) (fun e_ => (fun e_ => h1_.2.2 e_) e_)))
  replace HC42 := Aside0.mk (show Kd.C (Kd.int .i64) w12 A38 x66.length x66 from (Kd.R_reads' F41.out).2.2)
  replace BK5 := Aside0.mk (show w12.heap[gb5]? = some (.cells #[.slice A16 x29.length c17, .slice A22 x30.length c23] 33 (0, 0)) from blk_kept (by (with_reducible repeat (first | refine blk_drewN ?_ _ | refine blk_drew ?_)); exact BK5.out) hK (fun h_ => Or.elim h_ (fun e_ => by have h4_ := (F47.out.1 gb5 e_.symm).1; have := EG5.out; have := O118.out; have := O121.out; have := O124.out; have := O127.out; have := O130.out; have := O133.out; have := O138.out; omega) (fun e_ => (fun e_ => by have h4_ := (F53.out.1 gb5 e_.symm).1; have := EG5.out; have := O118.out; have := O121.out; have := O124.out; have := O127.out; have := O130.out; have := O133.out; have := O138.out; omega) e_)))
  replace BK9 := Aside0.mk (show w12.heap[gb9]? = some (.cells #[.slice A44 x29.length c45, .slice A50 x30.length c51] 33 (0, 0)) from blk_kept (by (with_reducible repeat (first | refine blk_drewN ?_ _ | refine blk_drew ?_)); exact BK9.out) hK (fun h_ => Or.elim h_ (fun e_ => by have h4_ := (F47.out.1 gb9 e_.symm).1; have := EG9.out; have := O118.out; have := O121.out; have := O124.out; have := O127.out; have := O130.out; have := O133.out; have := O138.out; omega) (fun e_ => (fun e_ => by have h4_ := (F53.out.1 gb9 e_.symm).1; have := EG9.out; have := O118.out; have := O121.out; have := O124.out; have := O127.out; have := O130.out; have := O133.out; have := O138.out; omega) e_)))
  replace F47 := Aside0.mk (show Kd.R (Kd.int .i64) 3 w12 w.heap.size (fun k_ => (lo128 ≤ k_ ∧ k_ < hi129) ∧ some k_ ≠ (.slice A38 x28.length c39 : Value).ownBlock ∧ some k_ ≠ (.slice A50 x30.length c51 : Value).ownBlock) (.slice A44 x29.length c45) x68 from Kd.R_mono (Kd.R_tight rfl hF0) (fun k_ hk_ => F47.out.1 k_ hk_.symm))
  replace HC48 := Aside0.mk (show Kd.C (Kd.int .i64) w12 A44 x68.length x68 from (Kd.R_reads' F47.out).2.2)
  have HQ146 := Aside0.mk (show x29.length = x68.length from (Kd.R_reads' F47.out).1)
  replace HL49 := Aside0.mk (show x68.length ≤ c45 from by rw [← HQ146.out]; exact HL49.out)
  replace F53 := Aside0.mk (show Kd.R (Kd.int .i64) 3 w12 w.heap.size (fun k_ => (lo128 ≤ k_ ∧ k_ < hi129) ∧ some k_ ≠ (.slice A38 x28.length c39 : Value).ownBlock ∧ some k_ ≠ (.slice A44 x29.length c45 : Value).ownBlock) (.slice A50 x30.length c51) x69 from Kd.R_mono (Kd.R_tight rfl hF1) (fun k_ hk_ => F53.out.1 k_ hk_.symm))
  replace HC54 := Aside0.mk (show Kd.C (Kd.int .i64) w12 A50 x69.length x69 from (Kd.R_reads' F53.out).2.2)
  have HQ147 := Aside0.mk (show x30.length = x69.length from (Kd.R_reads' F53.out).1)
  replace HL55 := Aside0.mk (show x69.length ≤ c51 from by rw [← HQ147.out]; exact HL55.out)
  replace HN := Aside0.mk (show hi137 ≤ w12.heap.size from Nat.le_trans HN.out hK.1)
  replace HB := Aside0.mk hB2
  clear hB2 hK hF0 hF1
  have k9_0 : World.cell? _ ⟨gb9, 0, none⟩ = some (.slice A44 x29.length c45) := (blk_cell BK9.out 0).trans rfl
  have k9_1 : World.cell? _ ⟨gb9, 1, none⟩ = some (.slice A50 x30.length c51) := (blk_cell BK9.out 1).trans rfl
  go_wp2_with fail
  try clear k9_0 k9_1
  go_at_call 37
  refine calls_of_args (args' := #[.slice A38 x66.length c39, .int .i64 1]) (by rw [HQ145.out]) ?_
  refine (laws_heldIntS.calls k A38 c39 x66 1 t65 _ (by (with_reducible repeat (first | apply Kd.C_drewN | apply Kd.C_drew)); exact HC42.out) HL43.out H110.out).mono ?_
  rintro e w_148 ⟨rfl, ⟨nd149, rfl⟩⟩
  have d150 : decide (t65 < 0) = false := decide_eq_false (by have := H111.out; omega)
  have k9_0 : World.cell? _ ⟨gb9, 0, none⟩ = some (.slice A44 x29.length c45) := (blk_cell BK9.out 0).trans rfl
  have k9_1 : World.cell? _ ⟨gb9, 1, none⟩ = some (.slice A50 x30.length c51) := (blk_cell BK9.out 1).trans rfl
  go_wp2_with fail
  try clear k9_0 k9_1
  go_at_call 38
  refine calls_of_args (args' := #[.agg #[.slice A44 x68.length c45, .slice A50 x69.length c51], .int .i64 t65]) (by rw [HQ146.out, HQ147.out]) ?_
  refine (laws_heldPrices.calls k A44 c45 x68 A50 c51 x69 t65 t67 _ (by (with_reducible repeat (first | apply Kd.C_drewN | apply Kd.C_drew)); exact HC48.out) HL49.out (by (with_reducible repeat (first | apply Kd.C_drewN | apply Kd.C_drew)); exact HC54.out) HL55.out H112.out).mono ?_
  rintro e w13 ⟨rfl, hb⟩
  have HB2 := Aside0.mk (below_next (N := hi137) (by repeat (first | exact HB.out | apply pw_below_drewN | apply below_drew1)) (by exact HN.out) (by have := O118.out; have := O121.out; have := O124.out; have := O127.out; have := O130.out; have := O133.out; have := O138.out; omega) hb)
  replace F13 := Aside0.mk (show Kd.R (Kd.int .i64) 3 w13 w.heap.size (fun k_ => (lo119 ≤ k_ ∧ k_ < hi120) ∧ some k_ ≠ (.slice A16 x29.length c17 : Value).ownBlock ∧ some k_ ≠ (.slice A22 x30.length c23 : Value).ownBlock) (.slice A10 x28.length c11) x28 from Kd.R_below (by (with_reducible repeat (first | apply Kd.R_drewN | apply Kd.R_drew)); exact F13.out) hb)
  replace HC14 := Aside0.mk (show Kd.C (Kd.int .i64) w13 A10 x28.length x28 from Kd.C_below (by (with_reducible repeat (first | apply Kd.C_drewN | apply Kd.C_drew)); exact HC14.out) hb)
  replace F19 := Aside0.mk (show Kd.R (Kd.int .i64) 3 w13 w.heap.size (fun k_ => (lo119 ≤ k_ ∧ k_ < hi120) ∧ some k_ ≠ (.slice A10 x28.length c11 : Value).ownBlock ∧ some k_ ≠ (.slice A22 x30.length c23 : Value).ownBlock) (.slice A16 x29.length c17) x29 from Kd.R_below (by (with_reducible repeat (first | apply Kd.R_drewN | apply Kd.R_drew)); exact F19.out) hb)
  replace HC20 := Aside0.mk (show Kd.C (Kd.int .i64) w13 A16 x29.length x29 from Kd.C_below (by (with_reducible repeat (first | apply Kd.C_drewN | apply Kd.C_drew)); exact HC20.out) hb)
  replace F25 := Aside0.mk (show Kd.R (Kd.int .i64) 3 w13 w.heap.size (fun k_ => (lo119 ≤ k_ ∧ k_ < hi120) ∧ some k_ ≠ (.slice A10 x28.length c11 : Value).ownBlock ∧ some k_ ≠ (.slice A16 x29.length c17 : Value).ownBlock) (.slice A22 x30.length c23) x30 from Kd.R_below (by (with_reducible repeat (first | apply Kd.R_drewN | apply Kd.R_drew)); exact F25.out) hb)
  replace HC26 := Aside0.mk (show Kd.C (Kd.int .i64) w13 A22 x30.length x30 from Kd.C_below (by (with_reducible repeat (first | apply Kd.C_drewN | apply Kd.C_drew)); exact HC26.out) hb)
  replace F41 := Aside0.mk (show Kd.R (Kd.int .i64) 3 w13 w.heap.size (fun k_ => (lo128 ≤ k_ ∧ k_ < hi129) ∧ some k_ ≠ (.slice A44 x29.length c45 : Value).ownBlock ∧ some k_ ≠ (.slice A50 x30.length c51 : Value).ownBlock) (.slice A38 x28.length c39) x66 from Kd.R_below (by (with_reducible repeat (first | apply Kd.R_drewN | apply Kd.R_drew)); exact F41.out) hb)
  replace HC42 := Aside0.mk (show Kd.C (Kd.int .i64) w13 A38 x66.length x66 from Kd.C_below (by (with_reducible repeat (first | apply Kd.C_drewN | apply Kd.C_drew)); exact HC42.out) hb)
  replace F47 := Aside0.mk (show Kd.R (Kd.int .i64) 3 w13 w.heap.size (fun k_ => (lo128 ≤ k_ ∧ k_ < hi129) ∧ some k_ ≠ (.slice A38 x28.length c39 : Value).ownBlock ∧ some k_ ≠ (.slice A50 x30.length c51 : Value).ownBlock) (.slice A44 x29.length c45) x68 from Kd.R_below (by (with_reducible repeat (first | apply Kd.R_drewN | apply Kd.R_drew)); exact F47.out) hb)
  replace HC48 := Aside0.mk (show Kd.C (Kd.int .i64) w13 A44 x68.length x68 from Kd.C_below (by (with_reducible repeat (first | apply Kd.C_drewN | apply Kd.C_drew)); exact HC48.out) hb)
  replace F53 := Aside0.mk (show Kd.R (Kd.int .i64) 3 w13 w.heap.size (fun k_ => (lo128 ≤ k_ ∧ k_ < hi129) ∧ some k_ ≠ (.slice A38 x28.length c39 : Value).ownBlock ∧ some k_ ≠ (.slice A44 x29.length c45 : Value).ownBlock) (.slice A50 x30.length c51) x69 from Kd.R_below (by (with_reducible repeat (first | apply Kd.R_drewN | apply Kd.R_drew)); exact F53.out) hb)
  replace HC54 := Aside0.mk (show Kd.C (Kd.int .i64) w13 A50 x69.length x69 from Kd.C_below (by (with_reducible repeat (first | apply Kd.C_drewN | apply Kd.C_drew)); exact HC54.out) hb)
  replace BK5 := Aside0.mk (show w13.heap[gb5]? = some (.cells #[.slice A16 x29.length c17, .slice A22 x30.length c23] 33 (0, 0)) from blk_below (by (with_reducible repeat (first | refine blk_drewN ?_ _ | refine blk_drew ?_)); exact BK5.out) hb)
  replace BK9 := Aside0.mk (show w13.heap[gb9]? = some (.cells #[.slice A44 x29.length c45, .slice A50 x30.length c51] 33 (0, 0)) from blk_below (by (with_reducible repeat (first | refine blk_drewN ?_ _ | refine blk_drew ?_)); exact BK9.out) hb)
  replace HN := Aside0.mk (show hi137 ≤ w13.heap.size from Nat.le_trans HN.out hb.size)
  replace HB := HB2
  clear HB2 hb
  have d151 : decide (t67 < 0) = false := decide_eq_false (by have := H113.out; omega)
  have k9_0 : World.cell? _ ⟨gb9, 0, none⟩ = some (.slice A44 x29.length c45) := (blk_cell BK9.out 0).trans rfl
  have k9_1 : World.cell? _ ⟨gb9, 1, none⟩ = some (.slice A50 x30.length c51) := (blk_cell BK9.out 1).trans rfl
  go_wp2_with fail
  try clear k9_0 k9_1
  go_at_call 13
  refine (laws_toIntSS.calls k A0 c0 l0 x9 _ (Kd.C_below HR0.out (by repeat (first | exact HB.out | apply pw_below_drewN | apply below_drew1))) HL0.out H100.out).mono ?_
  rintro e w14 ⟨v73, rfl, hF74, hb⟩
  have HB2 := Aside0.mk (below_next (N := hi137) (by repeat (first | exact HB.out | apply pw_below_drewN | apply below_drew1)) (by exact HN.out) (by have := O118.out; have := O121.out; have := O124.out; have := O127.out; have := O130.out; have := O133.out; have := O138.out; omega) hb)
  replace F13 := Aside0.mk (show Kd.R (Kd.int .i64) 3 w14 w.heap.size (fun k_ => (lo119 ≤ k_ ∧ k_ < hi120) ∧ some k_ ≠ (.slice A16 x29.length c17 : Value).ownBlock ∧ some k_ ≠ (.slice A22 x30.length c23 : Value).ownBlock) (.slice A10 x28.length c11) x28 from Kd.R_below (by (with_reducible repeat (first | apply Kd.R_drewN | apply Kd.R_drew)); exact F13.out) hb)
  replace HC14 := Aside0.mk (show Kd.C (Kd.int .i64) w14 A10 x28.length x28 from Kd.C_below (by (with_reducible repeat (first | apply Kd.C_drewN | apply Kd.C_drew)); exact HC14.out) hb)
  replace F19 := Aside0.mk (show Kd.R (Kd.int .i64) 3 w14 w.heap.size (fun k_ => (lo119 ≤ k_ ∧ k_ < hi120) ∧ some k_ ≠ (.slice A10 x28.length c11 : Value).ownBlock ∧ some k_ ≠ (.slice A22 x30.length c23 : Value).ownBlock) (.slice A16 x29.length c17) x29 from Kd.R_below (by (with_reducible repeat (first | apply Kd.R_drewN | apply Kd.R_drew)); exact F19.out) hb)
  replace HC20 := Aside0.mk (show Kd.C (Kd.int .i64) w14 A16 x29.length x29 from Kd.C_below (by (with_reducible repeat (first | apply Kd.C_drewN | apply Kd.C_drew)); exact HC20.out) hb)
  replace F25 := Aside0.mk (show Kd.R (Kd.int .i64) 3 w14 w.heap.size (fun k_ => (lo119 ≤ k_ ∧ k_ < hi120) ∧ some k_ ≠ (.slice A10 x28.length c11 : Value).ownBlock ∧ some k_ ≠ (.slice A16 x29.length c17 : Value).ownBlock) (.slice A22 x30.length c23) x30 from Kd.R_below (by (with_reducible repeat (first | apply Kd.R_drewN | apply Kd.R_drew)); exact F25.out) hb)
  replace HC26 := Aside0.mk (show Kd.C (Kd.int .i64) w14 A22 x30.length x30 from Kd.C_below (by (with_reducible repeat (first | apply Kd.C_drewN | apply Kd.C_drew)); exact HC26.out) hb)
  replace F41 := Aside0.mk (show Kd.R (Kd.int .i64) 3 w14 w.heap.size (fun k_ => (lo128 ≤ k_ ∧ k_ < hi129) ∧ some k_ ≠ (.slice A44 x29.length c45 : Value).ownBlock ∧ some k_ ≠ (.slice A50 x30.length c51 : Value).ownBlock) (.slice A38 x28.length c39) x66 from Kd.R_below (by (with_reducible repeat (first | apply Kd.R_drewN | apply Kd.R_drew)); exact F41.out) hb)
  replace HC42 := Aside0.mk (show Kd.C (Kd.int .i64) w14 A38 x66.length x66 from Kd.C_below (by (with_reducible repeat (first | apply Kd.C_drewN | apply Kd.C_drew)); exact HC42.out) hb)
  replace F47 := Aside0.mk (show Kd.R (Kd.int .i64) 3 w14 w.heap.size (fun k_ => (lo128 ≤ k_ ∧ k_ < hi129) ∧ some k_ ≠ (.slice A38 x28.length c39 : Value).ownBlock ∧ some k_ ≠ (.slice A50 x30.length c51 : Value).ownBlock) (.slice A44 x29.length c45) x68 from Kd.R_below (by (with_reducible repeat (first | apply Kd.R_drewN | apply Kd.R_drew)); exact F47.out) hb)
  replace HC48 := Aside0.mk (show Kd.C (Kd.int .i64) w14 A44 x68.length x68 from Kd.C_below (by (with_reducible repeat (first | apply Kd.C_drewN | apply Kd.C_drew)); exact HC48.out) hb)
  replace F53 := Aside0.mk (show Kd.R (Kd.int .i64) 3 w14 w.heap.size (fun k_ => (lo128 ≤ k_ ∧ k_ < hi129) ∧ some k_ ≠ (.slice A38 x28.length c39 : Value).ownBlock ∧ some k_ ≠ (.slice A44 x29.length c45 : Value).ownBlock) (.slice A50 x30.length c51) x69 from Kd.R_below (by (with_reducible repeat (first | apply Kd.R_drewN | apply Kd.R_drew)); exact F53.out) hb)
  replace HC54 := Aside0.mk (show Kd.C (Kd.int .i64) w14 A50 x69.length x69 from Kd.C_below (by (with_reducible repeat (first | apply Kd.C_drewN | apply Kd.C_drew)); exact HC54.out) hb)
  replace BK5 := Aside0.mk (show w14.heap[gb5]? = some (.cells #[.slice A16 x29.length c17, .slice A22 x30.length c23] 33 (0, 0)) from blk_below (by (with_reducible repeat (first | refine blk_drewN ?_ _ | refine blk_drew ?_)); exact BK5.out) hb)
  replace BK9 := Aside0.mk (show w14.heap[gb9]? = some (.cells #[.slice A44 x29.length c45, .slice A50 x30.length c51] 33 (0, 0)) from blk_below (by (with_reducible repeat (first | refine blk_drewN ?_ _ | refine blk_drew ?_)); exact BK9.out) hb)
  obtain ⟨lo152, hi153, ho, hg⟩ := fresh_pts (N := hi137) hb (by exact HN.out)
  have O154 := Aside0.mk (show hi137 ≤ lo152 ∧ lo152 ≤ hi153 from ⟨ho.1, ho.2.1⟩)
  have hF74b := S_in hF74 hg (B := w.heap.size) (by have := O118.out; have := O121.out; have := O124.out; have := O127.out; have := O130.out; have := O133.out; have := O138.out; have := O154.out; omega)
  obtain ⟨A71, c72, rfl, hle, hC⟩ := Kd.S_reads hF74b
  have HC75 := Aside0.mk hC
  have HL76 := Aside0.mk hle
  clear hle hC
  have F74 := Aside0.mk (show Kd.S (Kd.slice 3 (Kd.int .i64)) 27 w14 w.heap.size (fun k_ => (lo152 ≤ k_ ∧ k_ < hi153) ∧ True) (.slice A71 x9.length c72) x9 from hF74b)
  clear hF74 hF74b
  replace HN := Aside0.mk (show hi153 ≤ w14.heap.size from ho.2.2)
  clear ho hg
  replace HB := HB2
  clear HB2 hb
  go_wp2_with fail
  go_at_call 34
  refine (impl_CheapestFit.calls k A71 c72 x9 x28 x29 x30 x31 _ (by (with_reducible repeat (first | apply Kd.C_drewN | apply Kd.C_drew)); exact HC75.out) HL76.out H102.out).mono ?_
  rintro e w15 ⟨v79, v85, v91, rfl, hF80, hF86, hF92, hb⟩
  have HB2 := Aside0.mk (below_next (N := hi153) (by repeat (first | exact HB.out | apply pw_below_drewN | apply below_drew1)) (by exact HN.out) (by have := O118.out; have := O121.out; have := O124.out; have := O127.out; have := O130.out; have := O133.out; have := O138.out; have := O154.out; omega) hb)
  replace F13 := Aside0.mk (show Kd.R (Kd.int .i64) 3 w15 w.heap.size (fun k_ => (lo119 ≤ k_ ∧ k_ < hi120) ∧ some k_ ≠ (.slice A16 x29.length c17 : Value).ownBlock ∧ some k_ ≠ (.slice A22 x30.length c23 : Value).ownBlock) (.slice A10 x28.length c11) x28 from Kd.R_below (by (with_reducible repeat (first | apply Kd.R_drewN | apply Kd.R_drew)); exact F13.out) hb)
  replace HC14 := Aside0.mk (show Kd.C (Kd.int .i64) w15 A10 x28.length x28 from Kd.C_below (by (with_reducible repeat (first | apply Kd.C_drewN | apply Kd.C_drew)); exact HC14.out) hb)
  replace F19 := Aside0.mk (show Kd.R (Kd.int .i64) 3 w15 w.heap.size (fun k_ => (lo119 ≤ k_ ∧ k_ < hi120) ∧ some k_ ≠ (.slice A10 x28.length c11 : Value).ownBlock ∧ some k_ ≠ (.slice A22 x30.length c23 : Value).ownBlock) (.slice A16 x29.length c17) x29 from Kd.R_below (by (with_reducible repeat (first | apply Kd.R_drewN | apply Kd.R_drew)); exact F19.out) hb)
  replace HC20 := Aside0.mk (show Kd.C (Kd.int .i64) w15 A16 x29.length x29 from Kd.C_below (by (with_reducible repeat (first | apply Kd.C_drewN | apply Kd.C_drew)); exact HC20.out) hb)
  replace F25 := Aside0.mk (show Kd.R (Kd.int .i64) 3 w15 w.heap.size (fun k_ => (lo119 ≤ k_ ∧ k_ < hi120) ∧ some k_ ≠ (.slice A10 x28.length c11 : Value).ownBlock ∧ some k_ ≠ (.slice A16 x29.length c17 : Value).ownBlock) (.slice A22 x30.length c23) x30 from Kd.R_below (by (with_reducible repeat (first | apply Kd.R_drewN | apply Kd.R_drew)); exact F25.out) hb)
  replace HC26 := Aside0.mk (show Kd.C (Kd.int .i64) w15 A22 x30.length x30 from Kd.C_below (by (with_reducible repeat (first | apply Kd.C_drewN | apply Kd.C_drew)); exact HC26.out) hb)
  replace F41 := Aside0.mk (show Kd.R (Kd.int .i64) 3 w15 w.heap.size (fun k_ => (lo128 ≤ k_ ∧ k_ < hi129) ∧ some k_ ≠ (.slice A44 x29.length c45 : Value).ownBlock ∧ some k_ ≠ (.slice A50 x30.length c51 : Value).ownBlock) (.slice A38 x28.length c39) x66 from Kd.R_below (by (with_reducible repeat (first | apply Kd.R_drewN | apply Kd.R_drew)); exact F41.out) hb)
  replace HC42 := Aside0.mk (show Kd.C (Kd.int .i64) w15 A38 x66.length x66 from Kd.C_below (by (with_reducible repeat (first | apply Kd.C_drewN | apply Kd.C_drew)); exact HC42.out) hb)
  replace F47 := Aside0.mk (show Kd.R (Kd.int .i64) 3 w15 w.heap.size (fun k_ => (lo128 ≤ k_ ∧ k_ < hi129) ∧ some k_ ≠ (.slice A38 x28.length c39 : Value).ownBlock ∧ some k_ ≠ (.slice A50 x30.length c51 : Value).ownBlock) (.slice A44 x29.length c45) x68 from Kd.R_below (by (with_reducible repeat (first | apply Kd.R_drewN | apply Kd.R_drew)); exact F47.out) hb)
  replace HC48 := Aside0.mk (show Kd.C (Kd.int .i64) w15 A44 x68.length x68 from Kd.C_below (by (with_reducible repeat (first | apply Kd.C_drewN | apply Kd.C_drew)); exact HC48.out) hb)
  replace F53 := Aside0.mk (show Kd.R (Kd.int .i64) 3 w15 w.heap.size (fun k_ => (lo128 ≤ k_ ∧ k_ < hi129) ∧ some k_ ≠ (.slice A38 x28.length c39 : Value).ownBlock ∧ some k_ ≠ (.slice A44 x29.length c45 : Value).ownBlock) (.slice A50 x30.length c51) x69 from Kd.R_below (by (with_reducible repeat (first | apply Kd.R_drewN | apply Kd.R_drew)); exact F53.out) hb)
  replace HC54 := Aside0.mk (show Kd.C (Kd.int .i64) w15 A50 x69.length x69 from Kd.C_below (by (with_reducible repeat (first | apply Kd.C_drewN | apply Kd.C_drew)); exact HC54.out) hb)
  replace F74 := Aside0.mk (show Kd.S (Kd.slice 3 (Kd.int .i64)) 27 w15 w.heap.size (fun k_ => (lo152 ≤ k_ ∧ k_ < hi153) ∧ True) (.slice A71 x9.length c72) x9 from Kd.S_below (by (with_reducible repeat (first | apply Kd.S_drewN | apply Kd.S_drew)); exact F74.out) hb)
  replace HC75 := Aside0.mk (show Kd.C (Kd.slice 3 (Kd.int .i64)) w15 A71 x9.length x9 from Kd.C_below (by (with_reducible repeat (first | apply Kd.C_drewN | apply Kd.C_drew)); exact HC75.out) hb)
  replace BK5 := Aside0.mk (show w15.heap[gb5]? = some (.cells #[.slice A16 x29.length c17, .slice A22 x30.length c23] 33 (0, 0)) from blk_below (by (with_reducible repeat (first | refine blk_drewN ?_ _ | refine blk_drew ?_)); exact BK5.out) hb)
  replace BK9 := Aside0.mk (show w15.heap[gb9]? = some (.cells #[.slice A44 x29.length c45, .slice A50 x30.length c51] 33 (0, 0)) from blk_below (by (with_reducible repeat (first | refine blk_drewN ?_ _ | refine blk_drew ?_)); exact BK9.out) hb)
  obtain ⟨lo155, hi156, ho, hg⟩ := fresh_pts (N := hi153) hb (by exact HN.out)
  have O157 := Aside0.mk (show hi153 ≤ lo155 ∧ lo155 ≤ hi156 from ⟨ho.1, ho.2.1⟩)
  have hF80b := R_in hF80 hg (B := w.heap.size) (by have := O118.out; have := O121.out; have := O124.out; have := O127.out; have := O130.out; have := O133.out; have := O138.out; have := O154.out; have := O157.out; omega)
  have hF86b := R_in hF86 hg (B := w.heap.size) (by have := O118.out; have := O121.out; have := O124.out; have := O127.out; have := O130.out; have := O133.out; have := O138.out; have := O154.out; have := O157.out; omega)
  have hF92b := R_in hF92 hg (B := w.heap.size) (by have := O118.out; have := O121.out; have := O124.out; have := O127.out; have := O130.out; have := O133.out; have := O138.out; have := O154.out; have := O157.out; omega)
  obtain ⟨A77, c78, rfl, hle, hC⟩ := Kd.R_reads hF80b
  have HC81 := Aside0.mk hC
  have HL82 := Aside0.mk hle
  clear hle hC
  obtain ⟨A83, c84, rfl, hle, hC⟩ := Kd.R_reads hF86b
  have HC87 := Aside0.mk hC
  have HL88 := Aside0.mk hle
  clear hle hC
  obtain ⟨A89, c90, rfl, hle, hC⟩ := Kd.R_reads hF92b
  have HC93 := Aside0.mk hC
  have HL94 := Aside0.mk hle
  clear hle hC
  have F80 := Aside0.mk (show Kd.R (Kd.int .i64) 3 w15 w.heap.size (fun k_ => (lo155 ≤ k_ ∧ k_ < hi156) ∧ some k_ ≠ (.slice A83 x29.length c84 : Value).ownBlock ∧ some k_ ≠ (.slice A89 x30.length c90 : Value).ownBlock) (.slice A77 x28.length c78) x28 from hF80b)
  clear hF80 hF80b
  have F86 := Aside0.mk (show Kd.R (Kd.int .i64) 3 w15 w.heap.size (fun k_ => (lo155 ≤ k_ ∧ k_ < hi156) ∧ some k_ ≠ (.slice A77 x28.length c78 : Value).ownBlock ∧ some k_ ≠ (.slice A89 x30.length c90 : Value).ownBlock) (.slice A83 x29.length c84) x29 from hF86b)
  clear hF86 hF86b
  have F92 := Aside0.mk (show Kd.R (Kd.int .i64) 3 w15 w.heap.size (fun k_ => (lo155 ≤ k_ ∧ k_ < hi156) ∧ some k_ ≠ (.slice A77 x28.length c78 : Value).ownBlock ∧ some k_ ≠ (.slice A83 x29.length c84 : Value).ownBlock) (.slice A89 x30.length c90) x30 from hF92b)
  clear hF92 hF92b
  replace HN := Aside0.mk (show hi156 ≤ w15.heap.size from ho.2.2)
  clear ho hg
  replace HB := HB2
  clear HB2 hb
  go_wp2_with ((with_reducible refine gate_dst (N := 15) rfl ?_); refine box_event ?hg (N := 15) ?hd (cs := #[.slice none 0 0, .slice none 0 0]) (t := 33) ?hr ?_; (case hd => rfl); (case hg => rfl); (case hr => first | (go_simp; done) | (go_simp; rfl)); intro gb15 hgb wb hbox hb0; have hz0 : wb.cell? ⟨gb15, 0, none⟩ = some (.slice none 0 0) := (blk_cell hbox 0).trans rfl; have hf0 := blk_frozen hbox 0; have hz1 : wb.cell? ⟨gb15, 1, none⟩ = some (.slice none 0 0) := (blk_cell hbox 1).trans rfl; have hf1 := blk_frozen hbox 1; have hx5_ := blk_below (by (with_reducible repeat (first | refine blk_drewN ?_ _ | refine blk_drew ?_)); exact BK5.out) hb0; have hw5_0 : wb.cell? ⟨gb5, 0, none⟩ = some (.slice A16 x29.length c17) := (blk_cell hx5_ 0).trans rfl; have hw5_1 : wb.cell? ⟨gb5, 1, none⟩ = some (.slice A22 x30.length c23) := (blk_cell hx5_ 1).trans rfl; clear hx5_; have hne5_ : gb5 ≠ gb15 := Nat.ne_of_lt (Nat.lt_of_lt_of_eq (blk_lt (by (with_reducible repeat (first | refine blk_drewN ?_ _ | refine blk_drew ?_)); exact BK5.out)) hgb.symm); have hnf5_ := Ne.symm hne5_; have hx9_ := blk_below (by (with_reducible repeat (first | refine blk_drewN ?_ _ | refine blk_drew ?_)); exact BK9.out) hb0; have hw9_0 : wb.cell? ⟨gb9, 0, none⟩ = some (.slice A44 x29.length c45) := (blk_cell hx9_ 0).trans rfl; have hw9_1 : wb.cell? ⟨gb9, 1, none⟩ = some (.slice A50 x30.length c51) := (blk_cell hx9_ 1).trans rfl; clear hx9_; have hne9_ : gb9 ≠ gb15 := Nat.ne_of_lt (Nat.lt_of_lt_of_eq (blk_lt (by (with_reducible repeat (first | refine blk_drewN ?_ _ | refine blk_drew ?_)); exact BK9.out)) hgb.symm); have hnf9_ := Ne.symm hne9_; have hb := below_set (g := gb15) (j := 1) (v := .slice A89 x30.length c90) (below_set (g := gb15) (j := 0) (v := .slice A83 x29.length c84) (hb0) (Nat.le_of_eq hgb.symm)) (Nat.le_of_eq hgb.symm); have BK15 := Aside0.mk (blk_set (blk_set (hbox) 0 (.slice A83 x29.length c84)) 1 (.slice A89 x30.length c90)); have HGB := Aside0.mk hgb; clear hgb hbox hb0)
  generalize ((wb).setCell ⟨gb15, 0, none⟩ (.slice A83 x29.length c84)).setCell ⟨gb15, 1, none⟩ (.slice A89 x30.length c90) = w16 at hb BK15 ⊢
  clear hz0 hf0 hz1 hf1 hne5_ hnf5_ hw5_0 hw5_1 hne9_ hnf9_ hw9_0 hw9_1
  replace BK15 := Aside0.mk (show w16.heap[gb15]? = some (.cells #[.slice A83 x29.length c84, .slice A89 x30.length c90] 33 (0, 0)) from BK15.out)
  have HB2 := Aside0.mk (below_next (N := hi156) (by repeat (first | exact HB.out | apply pw_below_drewN | apply below_drew1)) (by exact HN.out) (by have := O118.out; have := O121.out; have := O124.out; have := O127.out; have := O130.out; have := O133.out; have := O138.out; have := O154.out; have := O157.out; omega) hb)
  replace F13 := Aside0.mk (show Kd.R (Kd.int .i64) 3 w16 w.heap.size (fun k_ => (lo119 ≤ k_ ∧ k_ < hi120) ∧ some k_ ≠ (.slice A16 x29.length c17 : Value).ownBlock ∧ some k_ ≠ (.slice A22 x30.length c23 : Value).ownBlock) (.slice A10 x28.length c11) x28 from Kd.R_below (by (with_reducible repeat (first | apply Kd.R_drewN | apply Kd.R_drew)); exact F13.out) hb)
  replace HC14 := Aside0.mk (show Kd.C (Kd.int .i64) w16 A10 x28.length x28 from Kd.C_below (by (with_reducible repeat (first | apply Kd.C_drewN | apply Kd.C_drew)); exact HC14.out) hb)
  replace F19 := Aside0.mk (show Kd.R (Kd.int .i64) 3 w16 w.heap.size (fun k_ => (lo119 ≤ k_ ∧ k_ < hi120) ∧ some k_ ≠ (.slice A10 x28.length c11 : Value).ownBlock ∧ some k_ ≠ (.slice A22 x30.length c23 : Value).ownBlock) (.slice A16 x29.length c17) x29 from Kd.R_below (by (with_reducible repeat (first | apply Kd.R_drewN | apply Kd.R_drew)); exact F19.out) hb)
  replace HC20 := Aside0.mk (show Kd.C (Kd.int .i64) w16 A16 x29.length x29 from Kd.C_below (by (with_reducible repeat (first | apply Kd.C_drewN | apply Kd.C_drew)); exact HC20.out) hb)
  replace F25 := Aside0.mk (show Kd.R (Kd.int .i64) 3 w16 w.heap.size (fun k_ => (lo119 ≤ k_ ∧ k_ < hi120) ∧ some k_ ≠ (.slice A10 x28.length c11 : Value).ownBlock ∧ some k_ ≠ (.slice A16 x29.length c17 : Value).ownBlock) (.slice A22 x30.length c23) x30 from Kd.R_below (by (with_reducible repeat (first | apply Kd.R_drewN | apply Kd.R_drew)); exact F25.out) hb)
  replace HC26 := Aside0.mk (show Kd.C (Kd.int .i64) w16 A22 x30.length x30 from Kd.C_below (by (with_reducible repeat (first | apply Kd.C_drewN | apply Kd.C_drew)); exact HC26.out) hb)
  replace F41 := Aside0.mk (show Kd.R (Kd.int .i64) 3 w16 w.heap.size (fun k_ => (lo128 ≤ k_ ∧ k_ < hi129) ∧ some k_ ≠ (.slice A44 x29.length c45 : Value).ownBlock ∧ some k_ ≠ (.slice A50 x30.length c51 : Value).ownBlock) (.slice A38 x28.length c39) x66 from Kd.R_below (by (with_reducible repeat (first | apply Kd.R_drewN | apply Kd.R_drew)); exact F41.out) hb)
  replace HC42 := Aside0.mk (show Kd.C (Kd.int .i64) w16 A38 x66.length x66 from Kd.C_below (by (with_reducible repeat (first | apply Kd.C_drewN | apply Kd.C_drew)); exact HC42.out) hb)
  replace F47 := Aside0.mk (show Kd.R (Kd.int .i64) 3 w16 w.heap.size (fun k_ => (lo128 ≤ k_ ∧ k_ < hi129) ∧ some k_ ≠ (.slice A38 x28.length c39 : Value).ownBlock ∧ some k_ ≠ (.slice A50 x30.length c51 : Value).ownBlock) (.slice A44 x29.length c45) x68 from Kd.R_below (by (with_reducible repeat (first | apply Kd.R_drewN | apply Kd.R_drew)); exact F47.out) hb)
  replace HC48 := Aside0.mk (show Kd.C (Kd.int .i64) w16 A44 x68.length x68 from Kd.C_below (by (with_reducible repeat (first | apply Kd.C_drewN | apply Kd.C_drew)); exact HC48.out) hb)
  replace F53 := Aside0.mk (show Kd.R (Kd.int .i64) 3 w16 w.heap.size (fun k_ => (lo128 ≤ k_ ∧ k_ < hi129) ∧ some k_ ≠ (.slice A38 x28.length c39 : Value).ownBlock ∧ some k_ ≠ (.slice A44 x29.length c45 : Value).ownBlock) (.slice A50 x30.length c51) x69 from Kd.R_below (by (with_reducible repeat (first | apply Kd.R_drewN | apply Kd.R_drew)); exact F53.out) hb)
  replace HC54 := Aside0.mk (show Kd.C (Kd.int .i64) w16 A50 x69.length x69 from Kd.C_below (by (with_reducible repeat (first | apply Kd.C_drewN | apply Kd.C_drew)); exact HC54.out) hb)
  replace F74 := Aside0.mk (show Kd.S (Kd.slice 3 (Kd.int .i64)) 27 w16 w.heap.size (fun k_ => (lo152 ≤ k_ ∧ k_ < hi153) ∧ True) (.slice A71 x9.length c72) x9 from Kd.S_below (by (with_reducible repeat (first | apply Kd.S_drewN | apply Kd.S_drew)); exact F74.out) hb)
  replace HC75 := Aside0.mk (show Kd.C (Kd.slice 3 (Kd.int .i64)) w16 A71 x9.length x9 from Kd.C_below (by (with_reducible repeat (first | apply Kd.C_drewN | apply Kd.C_drew)); exact HC75.out) hb)
  replace F80 := Aside0.mk (show Kd.R (Kd.int .i64) 3 w16 w.heap.size (fun k_ => (lo155 ≤ k_ ∧ k_ < hi156) ∧ some k_ ≠ (.slice A83 x29.length c84 : Value).ownBlock ∧ some k_ ≠ (.slice A89 x30.length c90 : Value).ownBlock) (.slice A77 x28.length c78) x28 from Kd.R_below (by (with_reducible repeat (first | apply Kd.R_drewN | apply Kd.R_drew)); exact F80.out) hb)
  replace HC81 := Aside0.mk (show Kd.C (Kd.int .i64) w16 A77 x28.length x28 from Kd.C_below (by (with_reducible repeat (first | apply Kd.C_drewN | apply Kd.C_drew)); exact HC81.out) hb)
  replace F86 := Aside0.mk (show Kd.R (Kd.int .i64) 3 w16 w.heap.size (fun k_ => (lo155 ≤ k_ ∧ k_ < hi156) ∧ some k_ ≠ (.slice A77 x28.length c78 : Value).ownBlock ∧ some k_ ≠ (.slice A89 x30.length c90 : Value).ownBlock) (.slice A83 x29.length c84) x29 from Kd.R_below (by (with_reducible repeat (first | apply Kd.R_drewN | apply Kd.R_drew)); exact F86.out) hb)
  replace HC87 := Aside0.mk (show Kd.C (Kd.int .i64) w16 A83 x29.length x29 from Kd.C_below (by (with_reducible repeat (first | apply Kd.C_drewN | apply Kd.C_drew)); exact HC87.out) hb)
  replace F92 := Aside0.mk (show Kd.R (Kd.int .i64) 3 w16 w.heap.size (fun k_ => (lo155 ≤ k_ ∧ k_ < hi156) ∧ some k_ ≠ (.slice A77 x28.length c78 : Value).ownBlock ∧ some k_ ≠ (.slice A83 x29.length c84 : Value).ownBlock) (.slice A89 x30.length c90) x30 from Kd.R_below (by (with_reducible repeat (first | apply Kd.R_drewN | apply Kd.R_drew)); exact F92.out) hb)
  replace HC93 := Aside0.mk (show Kd.C (Kd.int .i64) w16 A89 x30.length x30 from Kd.C_below (by (with_reducible repeat (first | apply Kd.C_drewN | apply Kd.C_drew)); exact HC93.out) hb)
  replace BK5 := Aside0.mk (show w16.heap[gb5]? = some (.cells #[.slice A16 x29.length c17, .slice A22 x30.length c23] 33 (0, 0)) from blk_below (by (with_reducible repeat (first | refine blk_drewN ?_ _ | refine blk_drew ?_)); exact BK5.out) hb)
  replace BK9 := Aside0.mk (show w16.heap[gb9]? = some (.cells #[.slice A44 x29.length c45, .slice A50 x30.length c51] 33 (0, 0)) from blk_below (by (with_reducible repeat (first | refine blk_drewN ?_ _ | refine blk_drew ?_)); exact BK9.out) hb)
  obtain ⟨lo158, hi159, ho, hg⟩ := fresh_pts (N := hi156) hb (by exact HN.out)
  have O160 := Aside0.mk (show hi156 ≤ lo158 ∧ lo158 ≤ hi159 from ⟨ho.1, ho.2.1⟩)
  have EG15 := Aside0.mk (show gb15 = lo158 ∧ gb15 < hi159 from ⟨HGB.out.trans hg.1.symm, by rw [hg.2]; exact blk_lt BK15.out⟩)
  replace HN := Aside0.mk (show hi159 ≤ w16.heap.size from ho.2.2)
  clear ho hg HGB
  replace HB := HB2
  clear HB2 hb
  clear F74 HC75
  have k5_0 : World.cell? _ ⟨gb5, 0, none⟩ = some (.slice A16 x29.length c17) := (blk_cell BK5.out 0).trans rfl
  have k5_1 : World.cell? _ ⟨gb5, 1, none⟩ = some (.slice A22 x30.length c23) := (blk_cell BK5.out 1).trans rfl
  have k15_0 : World.cell? _ ⟨gb15, 0, none⟩ = some (.slice A83 x29.length c84) := (blk_cell BK15.out 0).trans rfl
  have k15_1 : World.cell? _ ⟨gb15, 1, none⟩ = some (.slice A89 x30.length c90) := (blk_cell BK15.out 1).trans rfl
  go_wp2_with fail
  try clear k5_0 k5_1 k15_0 k15_1
  go_at_call 35
  refine (laws_eqIntS.calls k A77 c78 x28 A10 c11 x28 true _ (by (with_reducible repeat (first | apply Kd.C_drewN | apply Kd.C_drew)); exact HC81.out) HL82.out (by (with_reducible repeat (first | apply Kd.C_drewN | apply Kd.C_drew)); exact HC14.out) HL15.out H103.out).mono ?_
  rintro e w_161 ⟨rfl, ⟨nd162, rfl⟩⟩
  clear F13 HC14
  clear F80 HC81
  have k5_0 : World.cell? _ ⟨gb5, 0, none⟩ = some (.slice A16 x29.length c17) := (blk_cell BK5.out 0).trans rfl
  have k5_1 : World.cell? _ ⟨gb5, 1, none⟩ = some (.slice A22 x30.length c23) := (blk_cell BK5.out 1).trans rfl
  have k15_0 : World.cell? _ ⟨gb15, 0, none⟩ = some (.slice A83 x29.length c84) := (blk_cell BK15.out 0).trans rfl
  have k15_1 : World.cell? _ ⟨gb15, 1, none⟩ = some (.slice A89 x30.length c90) := (blk_cell BK15.out 1).trans rfl
  go_wp2_with fail
  try clear k5_0 k5_1 k15_0 k15_1
  go_at_call 20
  refine (laws_eqPrices.calls k A83 c84 x29 A89 c90 x30 A16 c17 x29 A22 c23 x30 true _ (by (with_reducible repeat (first | apply Kd.C_drewN | apply Kd.C_drew)); exact HC87.out) HL88.out (by (with_reducible repeat (first | apply Kd.C_drewN | apply Kd.C_drew)); exact HC93.out) HL94.out (by (with_reducible repeat (first | apply Kd.C_drewN | apply Kd.C_drew)); exact HC20.out) HL21.out (by (with_reducible repeat (first | apply Kd.C_drewN | apply Kd.C_drew)); exact HC26.out) HL27.out H104.out).mono ?_
  rintro e w17 ⟨rfl, hb⟩
  have HB2 := Aside0.mk (below_next (N := hi159) (by repeat (first | exact HB.out | apply pw_below_drewN | apply below_drew1)) (by exact HN.out) (by have := O118.out; have := O121.out; have := O124.out; have := O127.out; have := O130.out; have := O133.out; have := O138.out; have := O154.out; have := O157.out; have := O160.out; omega) hb)
  replace F19 := Aside0.mk (show Kd.R (Kd.int .i64) 3 w17 w.heap.size (fun k_ => (lo119 ≤ k_ ∧ k_ < hi120) ∧ some k_ ≠ (.slice A10 x28.length c11 : Value).ownBlock ∧ some k_ ≠ (.slice A22 x30.length c23 : Value).ownBlock) (.slice A16 x29.length c17) x29 from Kd.R_below (by (with_reducible repeat (first | apply Kd.R_drewN | apply Kd.R_drew)); exact F19.out) hb)
  replace HC20 := Aside0.mk (show Kd.C (Kd.int .i64) w17 A16 x29.length x29 from Kd.C_below (by (with_reducible repeat (first | apply Kd.C_drewN | apply Kd.C_drew)); exact HC20.out) hb)
  replace F25 := Aside0.mk (show Kd.R (Kd.int .i64) 3 w17 w.heap.size (fun k_ => (lo119 ≤ k_ ∧ k_ < hi120) ∧ some k_ ≠ (.slice A10 x28.length c11 : Value).ownBlock ∧ some k_ ≠ (.slice A16 x29.length c17 : Value).ownBlock) (.slice A22 x30.length c23) x30 from Kd.R_below (by (with_reducible repeat (first | apply Kd.R_drewN | apply Kd.R_drew)); exact F25.out) hb)
  replace HC26 := Aside0.mk (show Kd.C (Kd.int .i64) w17 A22 x30.length x30 from Kd.C_below (by (with_reducible repeat (first | apply Kd.C_drewN | apply Kd.C_drew)); exact HC26.out) hb)
  replace F41 := Aside0.mk (show Kd.R (Kd.int .i64) 3 w17 w.heap.size (fun k_ => (lo128 ≤ k_ ∧ k_ < hi129) ∧ some k_ ≠ (.slice A44 x29.length c45 : Value).ownBlock ∧ some k_ ≠ (.slice A50 x30.length c51 : Value).ownBlock) (.slice A38 x28.length c39) x66 from Kd.R_below (by (with_reducible repeat (first | apply Kd.R_drewN | apply Kd.R_drew)); exact F41.out) hb)
  replace HC42 := Aside0.mk (show Kd.C (Kd.int .i64) w17 A38 x66.length x66 from Kd.C_below (by (with_reducible repeat (first | apply Kd.C_drewN | apply Kd.C_drew)); exact HC42.out) hb)
  replace F47 := Aside0.mk (show Kd.R (Kd.int .i64) 3 w17 w.heap.size (fun k_ => (lo128 ≤ k_ ∧ k_ < hi129) ∧ some k_ ≠ (.slice A38 x28.length c39 : Value).ownBlock ∧ some k_ ≠ (.slice A50 x30.length c51 : Value).ownBlock) (.slice A44 x29.length c45) x68 from Kd.R_below (by (with_reducible repeat (first | apply Kd.R_drewN | apply Kd.R_drew)); exact F47.out) hb)
  replace HC48 := Aside0.mk (show Kd.C (Kd.int .i64) w17 A44 x68.length x68 from Kd.C_below (by (with_reducible repeat (first | apply Kd.C_drewN | apply Kd.C_drew)); exact HC48.out) hb)
  replace F53 := Aside0.mk (show Kd.R (Kd.int .i64) 3 w17 w.heap.size (fun k_ => (lo128 ≤ k_ ∧ k_ < hi129) ∧ some k_ ≠ (.slice A38 x28.length c39 : Value).ownBlock ∧ some k_ ≠ (.slice A44 x29.length c45 : Value).ownBlock) (.slice A50 x30.length c51) x69 from Kd.R_below (by (with_reducible repeat (first | apply Kd.R_drewN | apply Kd.R_drew)); exact F53.out) hb)
  replace HC54 := Aside0.mk (show Kd.C (Kd.int .i64) w17 A50 x69.length x69 from Kd.C_below (by (with_reducible repeat (first | apply Kd.C_drewN | apply Kd.C_drew)); exact HC54.out) hb)
  replace F86 := Aside0.mk (show Kd.R (Kd.int .i64) 3 w17 w.heap.size (fun k_ => (lo155 ≤ k_ ∧ k_ < hi156) ∧ some k_ ≠ (.slice A77 x28.length c78 : Value).ownBlock ∧ some k_ ≠ (.slice A89 x30.length c90 : Value).ownBlock) (.slice A83 x29.length c84) x29 from Kd.R_below (by (with_reducible repeat (first | apply Kd.R_drewN | apply Kd.R_drew)); exact F86.out) hb)
  replace HC87 := Aside0.mk (show Kd.C (Kd.int .i64) w17 A83 x29.length x29 from Kd.C_below (by (with_reducible repeat (first | apply Kd.C_drewN | apply Kd.C_drew)); exact HC87.out) hb)
  replace F92 := Aside0.mk (show Kd.R (Kd.int .i64) 3 w17 w.heap.size (fun k_ => (lo155 ≤ k_ ∧ k_ < hi156) ∧ some k_ ≠ (.slice A77 x28.length c78 : Value).ownBlock ∧ some k_ ≠ (.slice A83 x29.length c84 : Value).ownBlock) (.slice A89 x30.length c90) x30 from Kd.R_below (by (with_reducible repeat (first | apply Kd.R_drewN | apply Kd.R_drew)); exact F92.out) hb)
  replace HC93 := Aside0.mk (show Kd.C (Kd.int .i64) w17 A89 x30.length x30 from Kd.C_below (by (with_reducible repeat (first | apply Kd.C_drewN | apply Kd.C_drew)); exact HC93.out) hb)
  replace BK5 := Aside0.mk (show w17.heap[gb5]? = some (.cells #[.slice A16 x29.length c17, .slice A22 x30.length c23] 33 (0, 0)) from blk_below (by (with_reducible repeat (first | refine blk_drewN ?_ _ | refine blk_drew ?_)); exact BK5.out) hb)
  replace BK9 := Aside0.mk (show w17.heap[gb9]? = some (.cells #[.slice A44 x29.length c45, .slice A50 x30.length c51] 33 (0, 0)) from blk_below (by (with_reducible repeat (first | refine blk_drewN ?_ _ | refine blk_drew ?_)); exact BK9.out) hb)
  replace BK15 := Aside0.mk (show w17.heap[gb15]? = some (.cells #[.slice A83 x29.length c84, .slice A89 x30.length c90] 33 (0, 0)) from blk_below (by (with_reducible repeat (first | refine blk_drewN ?_ _ | refine blk_drew ?_)); exact BK15.out) hb)
  replace HN := Aside0.mk (show hi159 ≤ w17.heap.size from Nat.le_trans HN.out hb.size)
  replace HB := HB2
  clear HB2 hb
  clear F19 HC20
  clear F25 HC26
  clear F86 HC87
  clear F92 HC93
  have k5_0 : World.cell? _ ⟨gb5, 0, none⟩ = some (.slice A16 x29.length c17) := (blk_cell BK5.out 0).trans rfl
  have k5_1 : World.cell? _ ⟨gb5, 1, none⟩ = some (.slice A22 x30.length c23) := (blk_cell BK5.out 1).trans rfl
  have k15_0 : World.cell? _ ⟨gb15, 0, none⟩ = some (.slice A83 x29.length c84) := (blk_cell BK15.out 0).trans rfl
  have k15_1 : World.cell? _ ⟨gb15, 1, none⟩ = some (.slice A89 x30.length c90) := (blk_cell BK15.out 1).trans rfl
  go_wp2_with fail
  try clear k5_0 k5_1 k15_0 k15_1
  go_at_call 37
  refine calls_of_args (args' := #[.slice A38 x66.length c39, .int .i64 1]) (by rw [HQ145.out]) ?_
  refine (laws_heldIntS.calls k A38 c39 x66 1 t65 _ (by (with_reducible repeat (first | apply Kd.C_drewN | apply Kd.C_drew)); exact HC42.out) HL43.out H110.out).mono ?_
  rintro e w_163 ⟨rfl, ⟨nd164, rfl⟩⟩
  clear F41 HC42
  have d165 : decide (t65 < 0) = false := decide_eq_false (by have := H111.out; omega)
  have k9_0 : World.cell? _ ⟨gb9, 0, none⟩ = some (.slice A44 x29.length c45) := (blk_cell BK9.out 0).trans rfl
  have k9_1 : World.cell? _ ⟨gb9, 1, none⟩ = some (.slice A50 x30.length c51) := (blk_cell BK9.out 1).trans rfl
  go_wp2_with fail
  try clear k9_0 k9_1
  go_at_call 38
  refine calls_of_args (args' := #[.agg #[.slice A44 x68.length c45, .slice A50 x69.length c51], .int .i64 t65]) (by rw [HQ146.out, HQ147.out]) ?_
  refine (laws_heldPrices.calls k A44 c45 x68 A50 c51 x69 t65 t67 _ (by (with_reducible repeat (first | apply Kd.C_drewN | apply Kd.C_drew)); exact HC48.out) HL49.out (by (with_reducible repeat (first | apply Kd.C_drewN | apply Kd.C_drew)); exact HC54.out) HL55.out H112.out).mono ?_
  rintro e w18 ⟨rfl, hb⟩
  have HB2 := Aside0.mk (below_next (N := hi159) (by repeat (first | exact HB.out | apply pw_below_drewN | apply below_drew1)) (by exact HN.out) (by have := O118.out; have := O121.out; have := O124.out; have := O127.out; have := O130.out; have := O133.out; have := O138.out; have := O154.out; have := O157.out; have := O160.out; omega) hb)
  replace F47 := Aside0.mk (show Kd.R (Kd.int .i64) 3 w18 w.heap.size (fun k_ => (lo128 ≤ k_ ∧ k_ < hi129) ∧ some k_ ≠ (.slice A38 x28.length c39 : Value).ownBlock ∧ some k_ ≠ (.slice A50 x30.length c51 : Value).ownBlock) (.slice A44 x29.length c45) x68 from Kd.R_below (by (with_reducible repeat (first | apply Kd.R_drewN | apply Kd.R_drew)); exact F47.out) hb)
  replace HC48 := Aside0.mk (show Kd.C (Kd.int .i64) w18 A44 x68.length x68 from Kd.C_below (by (with_reducible repeat (first | apply Kd.C_drewN | apply Kd.C_drew)); exact HC48.out) hb)
  replace F53 := Aside0.mk (show Kd.R (Kd.int .i64) 3 w18 w.heap.size (fun k_ => (lo128 ≤ k_ ∧ k_ < hi129) ∧ some k_ ≠ (.slice A38 x28.length c39 : Value).ownBlock ∧ some k_ ≠ (.slice A44 x29.length c45 : Value).ownBlock) (.slice A50 x30.length c51) x69 from Kd.R_below (by (with_reducible repeat (first | apply Kd.R_drewN | apply Kd.R_drew)); exact F53.out) hb)
  replace HC54 := Aside0.mk (show Kd.C (Kd.int .i64) w18 A50 x69.length x69 from Kd.C_below (by (with_reducible repeat (first | apply Kd.C_drewN | apply Kd.C_drew)); exact HC54.out) hb)
  replace BK5 := Aside0.mk (show w18.heap[gb5]? = some (.cells #[.slice A16 x29.length c17, .slice A22 x30.length c23] 33 (0, 0)) from blk_below (by (with_reducible repeat (first | refine blk_drewN ?_ _ | refine blk_drew ?_)); exact BK5.out) hb)
  replace BK9 := Aside0.mk (show w18.heap[gb9]? = some (.cells #[.slice A44 x29.length c45, .slice A50 x30.length c51] 33 (0, 0)) from blk_below (by (with_reducible repeat (first | refine blk_drewN ?_ _ | refine blk_drew ?_)); exact BK9.out) hb)
  replace BK15 := Aside0.mk (show w18.heap[gb15]? = some (.cells #[.slice A83 x29.length c84, .slice A89 x30.length c90] 33 (0, 0)) from blk_below (by (with_reducible repeat (first | refine blk_drewN ?_ _ | refine blk_drew ?_)); exact BK15.out) hb)
  replace HN := Aside0.mk (show hi159 ≤ w18.heap.size from Nat.le_trans HN.out hb.size)
  replace HB := HB2
  clear HB2 hb
  clear F47 HC48
  clear F53 HC54
  have d166 : decide (t67 < 0) = false := decide_eq_false (by have := H113.out; omega)
  have k9_0 : World.cell? _ ⟨gb9, 0, none⟩ = some (.slice A44 x29.length c45) := (blk_cell BK9.out 0).trans rfl
  have k9_1 : World.cell? _ ⟨gb9, 1, none⟩ = some (.slice A50 x30.length c51) := (blk_cell BK9.out 1).trans rfl
  go_wp2_with fail
  try clear k9_0 k9_1
  go_ret
  exact ⟨rfl, (by repeat (first | exact HB.out | apply pw_below_drewN | apply below_drew1))⟩

/-- THE ONE PURE STATEMENT of laws_FnExactCheapestFit. -/
def laws_FnExactCheapestFit.Pure : Prop := ∀ (l0 : List (List Int)), (l0.length ≤ maxLen ∧ ∀ x ∈ l0, (x.length ≤ maxLen ∧ ∀ y_ ∈ x, (Lit.int .i64 y_).wf = true)) → ∃ k, laws_FnExactCheapestFit.f k l0 = some true
theorem laws_FnExactCheapestFit.walk (P : laws_FnExactCheapestFit.Pure) (A0 : Option Addr) (c0 : Nat) (l0 : List (List Int)) (w : World) (hr0 : Kd.C (Kd.slice 3 (Kd.int .i64)) w A0 l0.length l0) (hc0 : l0.length ≤ c0) (hw0 : (l0.length ≤ maxLen ∧ ∀ x ∈ l0, (x.length ≤ maxLen ∧ ∀ y_ ∈ x, (Lit.int .i64 y_).wf = true))) :
    Calls Try.prog 8 #[.slice A0 l0.length c0] w fun e w' => e = .returned (.bool true) ∧ Below w.heap.size w w' := by
  obtain ⟨k, h⟩ := P l0 hw0
  refine (laws_FnExactCheapestFit.calls k _ _ l0 true w hr0 hc0 h).mono ?_
  rintro e w' ⟨rfl, hd⟩
  exact ⟨rfl, hd⟩

end Go.Proofs.Ytdlblaihleojmaa.GLCheapestFit
