-- Written by a program of this session (gprint.py), over the kit's print: not trusted: Lean checks it.
import Derived.Test.YtdbepjnapjjlcaaGLPushWay0
import Derived.Test.YtdbepjnapjjlcaaGLPushWay1
import Derived.Test.YtdbepjnapjjlcaaGLPushWay4
import Derived.Test.YtdbepjnapjjlcaaGLPushWay7
namespace Go.Proofs.Ytdbepjnapjjlcaa.GLPushWay
open Go.RowKit Go.Proofs.YtdbepjnapjjlcaaW.PrintWords Go.Proofs.YtdbepjnapjjlcaaW.PrintLast Go.Proofs.YtdbepjnapjjlcaaW.PrintMore Go.Proofs.YtdbepjnapjjlcaaW.PrintOwn
attribute [local go_sem] max2_int min2_int max_two min_two max_three min_three max_four min_four   -- for this text's walks alone
set_option linter.unusedVariables false
set_option linter.unusedSimpArgs false

/-! ### laws_heldIntSS: function 28 -/
def laws_heldIntSS.l0 : Nat → List (List Int) → Int → Int → Option (Int)
  | 0, _, _, _ => none
  | k + 1, x0, x1, x5 => if x5 < (x0.length : Int) then (if 0 ≤ x5 then ((laws_heldIntS.f k (rd_L1 x0 x5) x1).bind fun t195 => (if t195 < 0 then (some (-1)) else (laws_heldIntSS.l0 k x0 t195 (wrap64 (x5 + 1))))) else (none)) else (some x1)
def laws_heldIntSS.f (k : Nat) (l0 : List (List Int)) (a1 : Int) : Option (Int) := laws_heldIntSS.l0 k l0 a1 0
theorem laws_heldIntSS.mono_l : ∀ k, (∀ y0 y1 y2, LeO (laws_heldIntSS.l0 k y0 y1 y2) (laws_heldIntSS.l0 (k + 1) y0 y1 y2))
  | 0 => fun _ _ _ r h => by simp [laws_heldIntSS.l0] at h
  | k + 1 => by
    have ih0 := laws_heldIntSS.mono_l k
    · intro y0 y1 y2
      unfold laws_heldIntSS.l0
      repeat' first
      | (with_reducible exact ih0 _ _ _)
      | (with_reducible exact laws_heldIntS.mono _ _ _)
      | (with_reducible exact LeO.refl _)
      | (with_reducible exact LeO.none _)
      | (with_reducible refine LeO.ite ?_ ?_)
      | (with_reducible refine LeO.bind ?_ (fun _ => ?_))
      | exact ih0 _ _ _
      | exact laws_heldIntS.mono _ _ _
      | exact LeO.none _
      | refine LeO.ite ?_ ?_
      | refine LeO.bind ?_ (fun _ => ?_)
theorem laws_heldIntSS.mono : ∀ a0 a1 k, LeO (laws_heldIntSS.f k a0 a1) (laws_heldIntSS.f (k + 1) a0 a1) := by
  intro a0 a1 k
  have ih0 := laws_heldIntSS.mono_l k
  unfold laws_heldIntSS.f
  repeat' first
      | (with_reducible exact ih0 _ _ _)
      | (with_reducible exact laws_heldIntS.mono _ _ _)
      | (with_reducible exact LeO.refl _)
      | (with_reducible exact LeO.none _)
      | (with_reducible refine LeO.ite ?_ ?_)
      | (with_reducible refine LeO.bind ?_ (fun _ => ?_))
      | exact ih0 _ _ _
      | exact laws_heldIntS.mono _ _ _
      | exact LeO.none _
      | refine LeO.ite ?_ ?_
      | refine LeO.bind ?_ (fun _ => ?_)
set_option maxHeartbeats 8000000 in
set_option maxRecDepth 100000 in
theorem laws_heldIntSS.calls (k : Nat) (A0 : Option Addr) (c0 : Nat) (l0 : List (List Int)) (a1 : Int) (r : Int) (w : World) (hr0 : Kd.C (Kd.slice 3 (Kd.int .i64)) w A0 l0.length l0) (hc0 : l0.length ≤ c0) (h : laws_heldIntSS.f k l0 a1 = some r) :
    Calls Try.prog 28 #[.slice A0 l0.length c0, .int .i64 a1] w fun e w' => e = .returned (.int .i64 r) ∧ Drawn0 w w' := by
  have HR0 := Aside0.mk hr0
  have HC0 := Aside0.mk hc0
  clear hr0 hc0
  have H : (laws_heldIntSS.l0 k l0 a1 0) = some r := h
  clear h
  have H' := Aside0.mk H
  clear H
  go_enter Try.func28, Try.ntmps28
  go_wp2
  go_loopg [1, 5] k (fun kq v1 v5 w' => ∃ (x1_1 : Int) (x5_1 : Int), v1 = .int .i64 x1_1 ∧ v5 = .int .i64 x5_1 ∧ Aside0 (laws_heldIntSS.l0 kq l0 x1_1 x5_1 = some r) ∧ Aside0 (kq ≤ k) ∧ Drawn0 w w')
  case atStart => exact ⟨(a1), (0), (by first | rfl | (simp; done) | (simp [*]; done)), (by first | rfl | (simp; done) | (simp [*]; done)), H', ⟨Nat.le_refl _⟩, by repeat (first | exact Drawn0.refl _ | apply Drawn0.step)⟩
  case round =>
    clear H'
    try clear c2
    try clear p2
    obtain ⟨x1_1, x5_1, rfl, rfl, HA, HK1, ⟨m1, rfl⟩⟩ := hrel
    cases gk with
    | zero => exact absurd HA.out (by simp [laws_heldIntSS.l0])
    | succ k1 =>
      have H := HA.out
      clear HA
      simp only [laws_heldIntSS.l0] at H
      by_cases c3 : x5_1 < (l0.length : Int)
      · rw [if_pos c3] at H
        have c3b0 : decide (x5_1 < (l0.length : Int)) = true := decide_eq_true c3
        clear c3
        by_cases c4 : 0 ≤ x5_1
        · rw [if_pos c4] at H
          have c4b0 : decide (0 ≤ x5_1) = true := decide_eq_true c4
          clear c4
          replace H := Option.bind_eq_some_iff.mp H
          obtain ⟨t195, A50, H⟩ := H
          replace H : (if t195 < 0 then (some (-1)) else (laws_heldIntSS.l0 k1 l0 t195 (wrap64 (x5_1 + 1)))) = some r := H
          have A5 := Aside0.mk A50
          clear A50
          by_cases c6 : t195 < 0
          · rw [if_pos c6] at H
            have c6b0 : decide (t195 < 0) = true := decide_eq_true c6
            clear c6
            obtain rfl := Option.some.inj H
            have p194 : 0 ≤ (x5_1 : Int) := of_decide_eq_true (by first | (with_reducible assumption) | assumption)
            have q194 : x5_1 < (l0.length : Int) := of_decide_eq_true (by first | (with_reducible assumption) | assumption)
            obtain ⟨ad194, A194_0, c194_0, e194, hx194_0, hl194_0, hi194_0⟩ := at_L1 HR0.out x5_1 p194 q194
            cases e194
            have HR194_0 := Aside0.mk hi194_0
            have HC194_0 := Aside0.mk hl194_0
            clear hi194_0 hl194_0
            replace p194 := eq_true p194
            replace q194 := eq_true q194
            go_wp2_with (first | ((with_reducible refine gate_callee (f := 31) rfl ?_); refine goesL_ (some 17) rfl rfl Try.func31 (by kernel_rfl) rfl #[.slice A194_0 (rd_L1 l0 x5_1).length c194_0, .int .i64 x1_1] rfl (by (try simp only [List.map_toArray, List.map_cons, List.map_nil]); first | done | rfl | (simp only [List.length_drop, List.length_take]; rfl)) ?_; (with_reducible refine (laws_heldIntS.calls k1 _ _ (rd_L1 l0 x5_1) x1_1 t195 _ ?side1 ?side2 A5.out).mono ?_); (case side1 => repeat (first | exact HR194_0.out | (with_reducible refine Kd.C_alloc ?_ _) | (with_reducible refine Kd.C_drewN ?_ _) | (with_reducible refine Kd.C_drew ?_))); (case side2 => exact HC194_0.out); rintro e w' ⟨rfl, ⟨nd, rfl⟩⟩; refine ⟨_, rfl, ?_⟩))
            go_ret
            exact ⟨by first | rfl | (simp; done) | (simp [*]; done), by repeat (first | exact Drawn0.refl _ | apply Drawn0.step)⟩
          · rw [if_neg c6] at H
            have c6b0 : decide (t195 < 0) = false := decide_eq_false c6
            clear c6
            have H' := Aside0.mk H
            clear H
            have p194 : 0 ≤ (x5_1 : Int) := of_decide_eq_true (by first | (with_reducible assumption) | assumption)
            have q194 : x5_1 < (l0.length : Int) := of_decide_eq_true (by first | (with_reducible assumption) | assumption)
            obtain ⟨ad194, A194_0, c194_0, e194, hx194_0, hl194_0, hi194_0⟩ := at_L1 HR0.out x5_1 p194 q194
            cases e194
            have HR194_0 := Aside0.mk hi194_0
            have HC194_0 := Aside0.mk hl194_0
            clear hi194_0 hl194_0
            replace p194 := eq_true p194
            replace q194 := eq_true q194
            go_wp2_with (first | ((with_reducible refine gate_callee (f := 31) rfl ?_); refine goesL_ (some 17) rfl rfl Try.func31 (by kernel_rfl) rfl #[.slice A194_0 (rd_L1 l0 x5_1).length c194_0, .int .i64 x1_1] rfl (by (try simp only [List.map_toArray, List.map_cons, List.map_nil]); first | done | rfl | (simp only [List.length_drop, List.length_take]; rfl)) ?_; (with_reducible refine (laws_heldIntS.calls k1 _ _ (rd_L1 l0 x5_1) x1_1 t195 _ ?side1 ?side2 A5.out).mono ?_); (case side1 => repeat (first | exact HR194_0.out | (with_reducible refine Kd.C_alloc ?_ _) | (with_reducible refine Kd.C_drewN ?_ _) | (with_reducible refine Kd.C_drew ?_))); (case side2 => exact HC194_0.out); rintro e w' ⟨rfl, ⟨nd, rfl⟩⟩; refine ⟨_, rfl, ?_⟩))
            go_roundg k1
            case measure => have := HK1.out; omega
            case rel => exact ⟨(t195), (wrap64 (x5_1 + 1)), (by first | rfl | (simp; done) | (simp [*]; done)), (by first | rfl | (simp; done) | (simp [*]; done)), H', ⟨by have := HK1.out; omega⟩, by repeat (first | exact Drawn0.refl _ | apply Drawn0.step)⟩
        · rw [if_neg c4] at H
          exact absurd H (by simp)
      · rw [if_neg c3] at H
        have c3b0 : decide (x5_1 < (l0.length : Int)) = false := decide_eq_false c3
        clear c3
        obtain rfl := Option.some.inj H
        go_wp2
        go_ret
        exact ⟨by first | rfl | (simp; done) | (simp [*]; done), by repeat (first | exact Drawn0.refl _ | apply Drawn0.step)⟩

/-! ### laws_FnExactPushWay: function 7 -/
def laws_FnExactPushWay.f (k : Nat) (l0 : List (List Int)) (l1 : List (List Int)) (l2 : List Int) : Option (Bool) := if (l2.length : Int) > 1048576 then some true else ((laws_szIntSS.f k l0 1048576).bind fun t1 => (if t1 < 0 then some true else ((laws_szIntSS.f k l1 t1).bind fun t2 => (if t2 < 0 then some true else ((laws_toIntSS.f k l0).bind fun x10 => ((laws_toIntSS.f k l1).bind fun x18 => ((laws_toIntS.f k l2).bind fun x26 => ((spec_PushWay.f k x10 x18 x26).bind fun p => match p with | (x33, x34, x35) => (if impl_PushWay.f k x10 x18 x26 = some (x33, x34, x35) then (if laws_eqIntSS.f k x33 x33 = some true then (if laws_eqIntSS.f k x10 x10 = some true then (if laws_eqIntSS.f k x18 x18 = some true then (if laws_eqIntS.f k x26 x26 = some true then ((laws_markIntSS.g x10 1).bind fun p => match p with | (t81, x82) => ((laws_markIntSS.g x18 t81).bind fun p => match p with | (t83, x84) => ((laws_markIntS.f k x26 t83).bind fun p => match p with | (t85, x86) => (if 0 ≤ t85 then ((laws_markIntSS.g x33 1).bind fun p => match p with | (t87, x88) => (if laws_heldIntSS.f k x88 1 = some t87 then (if 0 ≤ t87 then (some true) else none) else none)) else none)))) else none) else none) else none) else none) else none)))))))))
set_option maxHeartbeats 16000000 in
set_option maxRecDepth 100000 in
theorem laws_FnExactPushWay.calls (k : Nat) (A0 : Option Addr) (c0 : Nat) (l0 : List (List Int)) (A1 : Option Addr) (c1 : Nat) (l1 : List (List Int)) (A2 : Option Addr) (c2 : Nat) (l2 : List Int) (r : Bool) (w : World) (hr0 : Kd.C (Kd.slice 3 (Kd.int .i64)) w A0 l0.length l0) (hc0 : l0.length ≤ c0) (hr1 : Kd.C (Kd.slice 3 (Kd.int .i64)) w A1 l1.length l1) (hc1 : l1.length ≤ c1) (hr2 : Kd.C (Kd.int .i64) w A2 l2.length l2) (hc2 : l2.length ≤ c2) (h : laws_FnExactPushWay.f k l0 l1 l2 = some r) :
    Calls Try.prog 7 #[.slice A0 l0.length c0, .slice A1 l1.length c1, .slice A2 l2.length c2] w fun e w' => e = .returned (.bool r) ∧ Below w.heap.size w w' := by
  have HR0 := Aside0.mk hr0
  have HL0 := Aside0.mk hc0
  clear hr0 hc0
  have HR1 := Aside0.mk hr1
  have HL1 := Aside0.mk hc1
  clear hr1 hc1
  have HR2 := Aside0.mk hr2
  have HL2 := Aside0.mk hc2
  clear hr2 hc2
  unfold laws_FnExactPushWay.f at h
  by_cases c116 : (l2.length : Int) > 1048576
  · rw [if_pos c116] at h
    obtain rfl := Option.some.inj h
    clear h
    have d1 : decide ((l2.length : Int) > 1048576) = true := decide_eq_true c116
    have d2 : decide (1048576 < (l2.length : Int)) = true := decide_eq_true c116
    clear c116
    go_enter Try.func7, Try.ntmps7
    have HB := Aside0.mk (Below.refl w.heap.size w)
    have HN := Aside0.mk (Nat.le_refl w.heap.size)
    go_wp2_with fail
    go_ret
    exact ⟨rfl, (by repeat (first | exact HB.out | apply pw_below_drewN | apply below_drew1))⟩
  rw [if_neg c116] at h
  have d117 : decide ((l2.length : Int) > 1048576) = false := decide_eq_false c116
  have d117b : decide (1048576 < (l2.length : Int)) = false := decide_eq_false c116
  clear c116
  replace h := Option.bind_eq_some_iff.mp h
  obtain ⟨t1, H1180, h⟩ := h
  have H118 := Aside0.mk H1180
  clear H1180
  try dsimp only at h
  by_cases c119 : t1 < 0
  · rw [if_pos c119] at h
    obtain rfl := Option.some.inj h
    clear h
    have d1 : decide (t1 < 0) = true := decide_eq_true c119
    clear c119
    go_enter Try.func7, Try.ntmps7
    have HB := Aside0.mk (Below.refl w.heap.size w)
    have HN := Aside0.mk (Nat.le_refl w.heap.size)
    go_wp2_with fail
    go_at_call 11
    refine (laws_szIntSS.calls k A0 c0 l0 1048576 t1 _ (Kd.C_below HR0.out (by repeat (first | exact HB.out | apply pw_below_drewN | apply below_drew1))) HL0.out H118.out).mono ?_
    rintro e w_120 ⟨rfl, ⟨nd121, rfl⟩⟩
    go_wp2_with fail
    go_ret
    exact ⟨rfl, (by repeat (first | exact HB.out | apply pw_below_drewN | apply below_drew1))⟩
  rw [if_neg c119] at h
  have d122 : decide (t1 < 0) = false := decide_eq_false c119
  clear c119
  replace h := Option.bind_eq_some_iff.mp h
  obtain ⟨t2, H1230, h⟩ := h
  have H123 := Aside0.mk H1230
  clear H1230
  try dsimp only at h
  by_cases c124 : t2 < 0
  · rw [if_pos c124] at h
    obtain rfl := Option.some.inj h
    clear h
    have d1 : decide (t2 < 0) = true := decide_eq_true c124
    clear c124
    go_enter Try.func7, Try.ntmps7
    have HB := Aside0.mk (Below.refl w.heap.size w)
    have HN := Aside0.mk (Nat.le_refl w.heap.size)
    go_wp2_with fail
    go_at_call 11
    refine (laws_szIntSS.calls k A0 c0 l0 1048576 t1 _ (Kd.C_below HR0.out (by repeat (first | exact HB.out | apply pw_below_drewN | apply below_drew1))) HL0.out H118.out).mono ?_
    rintro e w_125 ⟨rfl, ⟨nd126, rfl⟩⟩
    go_wp2_with fail
    go_at_call 11
    refine (laws_szIntSS.calls k A1 c1 l1 t1 t2 _ (Kd.C_below HR1.out (by repeat (first | exact HB.out | apply pw_below_drewN | apply below_drew1))) HL1.out H123.out).mono ?_
    rintro e w_127 ⟨rfl, ⟨nd128, rfl⟩⟩
    go_wp2_with fail
    go_ret
    exact ⟨rfl, (by repeat (first | exact HB.out | apply pw_below_drewN | apply below_drew1))⟩
  rw [if_neg c124] at h
  have d129 : decide (t2 < 0) = false := decide_eq_false c124
  clear c124
  replace h := Option.bind_eq_some_iff.mp h
  obtain ⟨x10, H1300, h⟩ := h
  have H130 := Aside0.mk H1300
  clear H1300
  try dsimp only at h
  replace h := Option.bind_eq_some_iff.mp h
  obtain ⟨x18, H1310, h⟩ := h
  have H131 := Aside0.mk H1310
  clear H1310
  try dsimp only at h
  replace h := Option.bind_eq_some_iff.mp h
  obtain ⟨x26, H1320, h⟩ := h
  have H132 := Aside0.mk H1320
  clear H1320
  try dsimp only at h
  replace h := Option.bind_eq_some_iff.mp h
  obtain ⟨⟨x33, x34, x35⟩, H1330, h⟩ := h
  have H133 := Aside0.mk H1330
  clear H1330
  try dsimp only at h
  obtain ⟨H1340, h⟩ := need_of h
  have H134 := Aside0.mk H1340
  clear H1340
  obtain ⟨H1350, h⟩ := need_of h
  have H135 := Aside0.mk H1350
  clear H1350
  obtain ⟨H1360, h⟩ := need_of h
  have H136 := Aside0.mk H1360
  clear H1360
  obtain ⟨H1370, h⟩ := need_of h
  have H137 := Aside0.mk H1370
  clear H1370
  obtain ⟨H1380, h⟩ := need_of h
  have H138 := Aside0.mk H1380
  clear H1380
  replace h := Option.bind_eq_some_iff.mp h
  obtain ⟨⟨t81, x82⟩, H1390, h⟩ := h
  have H139 := Aside0.mk H1390
  clear H1390
  try dsimp only at h
  replace h := Option.bind_eq_some_iff.mp h
  obtain ⟨⟨t83, x84⟩, H1400, h⟩ := h
  have H140 := Aside0.mk H1400
  clear H1400
  try dsimp only at h
  replace h := Option.bind_eq_some_iff.mp h
  obtain ⟨⟨t85, x86⟩, H1410, h⟩ := h
  have H141 := Aside0.mk H1410
  clear H1410
  try dsimp only at h
  obtain ⟨H1420, h⟩ := need_of h
  have H142 := Aside0.mk H1420
  clear H1420
  replace h := Option.bind_eq_some_iff.mp h
  obtain ⟨⟨t87, x88⟩, H1430, h⟩ := h
  have H143 := Aside0.mk H1430
  clear H1430
  try dsimp only at h
  obtain ⟨H1440, h⟩ := need_of h
  have H144 := Aside0.mk H1440
  clear H1440
  obtain ⟨H1450, h⟩ := need_of h
  have H145 := Aside0.mk H1450
  clear H1450
  obtain rfl := Option.some.inj h
  clear h
  go_enter Try.func7, Try.ntmps7
  have HB := Aside0.mk (Below.refl w.heap.size w)
  have HN := Aside0.mk (Nat.le_refl w.heap.size)
  go_wp2_with fail
  go_at_call 11
  refine (laws_szIntSS.calls k A0 c0 l0 1048576 t1 _ (Kd.C_below HR0.out (by repeat (first | exact HB.out | apply pw_below_drewN | apply below_drew1))) HL0.out H118.out).mono ?_
  rintro e w_146 ⟨rfl, ⟨nd147, rfl⟩⟩
  go_wp2_with fail
  go_at_call 11
  refine (laws_szIntSS.calls k A1 c1 l1 t1 t2 _ (Kd.C_below HR1.out (by repeat (first | exact HB.out | apply pw_below_drewN | apply below_drew1))) HL1.out H123.out).mono ?_
  rintro e w_148 ⟨rfl, ⟨nd149, rfl⟩⟩
  go_wp2_with fail
  go_at_call 13
  refine (laws_toIntSS.calls k A0 c0 l0 x10 _ (Kd.C_below HR0.out (by repeat (first | exact HB.out | apply pw_below_drewN | apply below_drew1))) HL0.out H130.out).mono ?_
  rintro e w1 ⟨v6, rfl, hF7, hb⟩
  have HB2 := Aside0.mk (below_next (N := w.heap.size) (by repeat (first | exact HB.out | apply pw_below_drewN | apply below_drew1)) (by exact HN.out) (by omega) hb)
  obtain ⟨lo150, hi151, ho, hg⟩ := fresh_pts (N := w.heap.size) hb (by exact HN.out)
  have O152 := Aside0.mk (show w.heap.size ≤ lo150 ∧ lo150 ≤ hi151 from ⟨ho.1, ho.2.1⟩)
  have hF7b := S_in hF7 hg (B := w.heap.size) (by have := O152.out; omega)
  obtain ⟨A4, c5, rfl, hle, hC⟩ := Kd.S_reads hF7b
  have HC8 := Aside0.mk hC
  have HL9 := Aside0.mk hle
  clear hle hC
  have F7 := Aside0.mk (show Kd.S (Kd.slice 3 (Kd.int .i64)) 31 w1 w.heap.size (fun k_ => (lo150 ≤ k_ ∧ k_ < hi151) ∧ True) (.slice A4 x10.length c5) x10 from hF7b)
  clear hF7 hF7b
  replace HN := Aside0.mk (show hi151 ≤ w1.heap.size from ho.2.2)
  clear ho hg
  replace HB := HB2
  clear HB2 hb
  go_wp2_with fail
  go_at_call 13
  refine (laws_toIntSS.calls k A1 c1 l1 x18 _ (Kd.C_below HR1.out (by repeat (first | exact HB.out | apply pw_below_drewN | apply below_drew1))) HL1.out H131.out).mono ?_
  rintro e w2 ⟨v14, rfl, hF15, hb⟩
  have HB2 := Aside0.mk (below_next (N := hi151) (by repeat (first | exact HB.out | apply pw_below_drewN | apply below_drew1)) (by exact HN.out) (by have := O152.out; omega) hb)
  replace F7 := Aside0.mk (show Kd.S (Kd.slice 3 (Kd.int .i64)) 31 w2 w.heap.size (fun k_ => (lo150 ≤ k_ ∧ k_ < hi151) ∧ True) (.slice A4 x10.length c5) x10 from Kd.S_below (by (with_reducible repeat (first | apply Kd.S_drewN | apply Kd.S_drew)); exact F7.out) hb)
  replace HC8 := Aside0.mk (show Kd.C (Kd.slice 3 (Kd.int .i64)) w2 A4 x10.length x10 from Kd.C_below (by (with_reducible repeat (first | apply Kd.C_drewN | apply Kd.C_drew)); exact HC8.out) hb)
  obtain ⟨lo153, hi154, ho, hg⟩ := fresh_pts (N := hi151) hb (by exact HN.out)
  have O155 := Aside0.mk (show hi151 ≤ lo153 ∧ lo153 ≤ hi154 from ⟨ho.1, ho.2.1⟩)
  have hF15b := S_in hF15 hg (B := w.heap.size) (by have := O152.out; have := O155.out; omega)
  obtain ⟨A12, c13, rfl, hle, hC⟩ := Kd.S_reads hF15b
  have HC16 := Aside0.mk hC
  have HL17 := Aside0.mk hle
  clear hle hC
  have F15 := Aside0.mk (show Kd.S (Kd.slice 3 (Kd.int .i64)) 31 w2 w.heap.size (fun k_ => (lo153 ≤ k_ ∧ k_ < hi154) ∧ True) (.slice A12 x18.length c13) x18 from hF15b)
  clear hF15 hF15b
  replace HN := Aside0.mk (show hi154 ≤ w2.heap.size from ho.2.2)
  clear ho hg
  replace HB := HB2
  clear HB2 hb
  go_wp2_with fail
  go_at_call 21
  refine (laws_toIntS.calls k A2 c2 l2 x26 _ (Kd.C_below HR2.out (by repeat (first | exact HB.out | apply pw_below_drewN | apply below_drew1))) HL2.out H132.out).mono ?_
  rintro e w3 ⟨v22, rfl, hF23, hb⟩
  have HB2 := Aside0.mk (below_next (N := hi154) (by repeat (first | exact HB.out | apply pw_below_drewN | apply below_drew1)) (by exact HN.out) (by have := O152.out; have := O155.out; omega) hb)
  replace F7 := Aside0.mk (show Kd.S (Kd.slice 3 (Kd.int .i64)) 31 w3 w.heap.size (fun k_ => (lo150 ≤ k_ ∧ k_ < hi151) ∧ True) (.slice A4 x10.length c5) x10 from Kd.S_below (by (with_reducible repeat (first | apply Kd.S_drewN | apply Kd.S_drew)); exact F7.out) hb)
  replace HC8 := Aside0.mk (show Kd.C (Kd.slice 3 (Kd.int .i64)) w3 A4 x10.length x10 from Kd.C_below (by (with_reducible repeat (first | apply Kd.C_drewN | apply Kd.C_drew)); exact HC8.out) hb)
  replace F15 := Aside0.mk (show Kd.S (Kd.slice 3 (Kd.int .i64)) 31 w3 w.heap.size (fun k_ => (lo153 ≤ k_ ∧ k_ < hi154) ∧ True) (.slice A12 x18.length c13) x18 from Kd.S_below (by (with_reducible repeat (first | apply Kd.S_drewN | apply Kd.S_drew)); exact F15.out) hb)
  replace HC16 := Aside0.mk (show Kd.C (Kd.slice 3 (Kd.int .i64)) w3 A12 x18.length x18 from Kd.C_below (by (with_reducible repeat (first | apply Kd.C_drewN | apply Kd.C_drew)); exact HC16.out) hb)
  obtain ⟨lo156, hi157, ho, hg⟩ := fresh_pts (N := hi154) hb (by exact HN.out)
  have O158 := Aside0.mk (show hi154 ≤ lo156 ∧ lo156 ≤ hi157 from ⟨ho.1, ho.2.1⟩)
  have hF23b := R_in hF23 hg (B := w.heap.size) (by have := O152.out; have := O155.out; have := O158.out; omega)
  obtain ⟨A20, c21, rfl, hle, hC⟩ := Kd.R_reads hF23b
  have HC24 := Aside0.mk hC
  have HL25 := Aside0.mk hle
  clear hle hC
  have F23 := Aside0.mk (show Kd.R (Kd.int .i64) 3 w3 w.heap.size (fun k_ => (lo156 ≤ k_ ∧ k_ < hi157) ∧ True) (.slice A20 x26.length c21) x26 from hF23b)
  clear hF23 hF23b
  replace HN := Aside0.mk (show hi157 ≤ w3.heap.size from ho.2.2)
  clear ho hg
  replace HB := HB2
  clear HB2 hb
  go_wp2_with fail
  go_at_call 24
  refine (spec_PushWay.calls k A4 c5 x10 A12 c13 x18 A20 c21 x26 x33 x34 x35 _ (by (with_reducible repeat (first | apply Kd.C_drewN | apply Kd.C_drew)); exact HC8.out) HL9.out (by (with_reducible repeat (first | apply Kd.C_drewN | apply Kd.C_drew)); exact HC16.out) HL17.out (by (with_reducible repeat (first | apply Kd.C_drewN | apply Kd.C_drew)); exact HC24.out) HL25.out H133.out).mono ?_
  rintro e w4 ⟨v29, rfl, hF30, hb⟩
  have HB2 := Aside0.mk (below_next (N := hi157) (by repeat (first | exact HB.out | apply pw_below_drewN | apply below_drew1)) (by exact HN.out) (by have := O152.out; have := O155.out; have := O158.out; omega) hb)
  replace F7 := Aside0.mk (show Kd.S (Kd.slice 3 (Kd.int .i64)) 31 w4 w.heap.size (fun k_ => (lo150 ≤ k_ ∧ k_ < hi151) ∧ True) (.slice A4 x10.length c5) x10 from Kd.S_below (by (with_reducible repeat (first | apply Kd.S_drewN | apply Kd.S_drew)); exact F7.out) hb)
  replace HC8 := Aside0.mk (show Kd.C (Kd.slice 3 (Kd.int .i64)) w4 A4 x10.length x10 from Kd.C_below (by (with_reducible repeat (first | apply Kd.C_drewN | apply Kd.C_drew)); exact HC8.out) hb)
  replace F15 := Aside0.mk (show Kd.S (Kd.slice 3 (Kd.int .i64)) 31 w4 w.heap.size (fun k_ => (lo153 ≤ k_ ∧ k_ < hi154) ∧ True) (.slice A12 x18.length c13) x18 from Kd.S_below (by (with_reducible repeat (first | apply Kd.S_drewN | apply Kd.S_drew)); exact F15.out) hb)
  replace HC16 := Aside0.mk (show Kd.C (Kd.slice 3 (Kd.int .i64)) w4 A12 x18.length x18 from Kd.C_below (by (with_reducible repeat (first | apply Kd.C_drewN | apply Kd.C_drew)); exact HC16.out) hb)
  replace F23 := Aside0.mk (show Kd.R (Kd.int .i64) 3 w4 w.heap.size (fun k_ => (lo156 ≤ k_ ∧ k_ < hi157) ∧ True) (.slice A20 x26.length c21) x26 from Kd.R_below (by (with_reducible repeat (first | apply Kd.R_drewN | apply Kd.R_drew)); exact F23.out) hb)
  replace HC24 := Aside0.mk (show Kd.C (Kd.int .i64) w4 A20 x26.length x26 from Kd.C_below (by (with_reducible repeat (first | apply Kd.C_drewN | apply Kd.C_drew)); exact HC24.out) hb)
  obtain ⟨lo159, hi160, ho, hg⟩ := fresh_pts (N := hi157) hb (by exact HN.out)
  have O161 := Aside0.mk (show hi157 ≤ lo159 ∧ lo159 ≤ hi160 from ⟨ho.1, ho.2.1⟩)
  have hF30b := S_in hF30 hg (B := w.heap.size) (by have := O152.out; have := O155.out; have := O158.out; have := O161.out; omega)
  obtain ⟨A27, c28, rfl, hle, hC⟩ := Kd.S_reads hF30b
  have HC31 := Aside0.mk hC
  have HL32 := Aside0.mk hle
  clear hle hC
  have F30 := Aside0.mk (show Kd.S (Kd.slice 3 (Kd.int .i64)) 31 w4 w.heap.size (fun k_ => (lo159 ≤ k_ ∧ k_ < hi160) ∧ True) (.slice A27 x33.length c28) x33 from hF30b)
  clear hF30 hF30b
  replace HN := Aside0.mk (show hi160 ≤ w4.heap.size from ho.2.2)
  clear ho hg
  replace HB := HB2
  clear HB2 hb
  clear F7 HC8
  clear F15 HC16
  clear F23 HC24
  go_wp2_with fail
  go_at_call 13
  refine (laws_toIntSS.calls k A0 c0 l0 x10 _ (Kd.C_below HR0.out (by repeat (first | exact HB.out | apply pw_below_drewN | apply below_drew1))) HL0.out H130.out).mono ?_
  rintro e w5 ⟨v38, rfl, hF39, hb⟩
  have HB2 := Aside0.mk (below_next (N := hi160) (by repeat (first | exact HB.out | apply pw_below_drewN | apply below_drew1)) (by exact HN.out) (by have := O152.out; have := O155.out; have := O158.out; have := O161.out; omega) hb)
  replace F30 := Aside0.mk (show Kd.S (Kd.slice 3 (Kd.int .i64)) 31 w5 w.heap.size (fun k_ => (lo159 ≤ k_ ∧ k_ < hi160) ∧ True) (.slice A27 x33.length c28) x33 from Kd.S_below (by (with_reducible repeat (first | apply Kd.S_drewN | apply Kd.S_drew)); exact F30.out) hb)
  replace HC31 := Aside0.mk (show Kd.C (Kd.slice 3 (Kd.int .i64)) w5 A27 x33.length x33 from Kd.C_below (by (with_reducible repeat (first | apply Kd.C_drewN | apply Kd.C_drew)); exact HC31.out) hb)
  obtain ⟨lo162, hi163, ho, hg⟩ := fresh_pts (N := hi160) hb (by exact HN.out)
  have O164 := Aside0.mk (show hi160 ≤ lo162 ∧ lo162 ≤ hi163 from ⟨ho.1, ho.2.1⟩)
  have hF39b := S_in hF39 hg (B := w.heap.size) (by have := O152.out; have := O155.out; have := O158.out; have := O161.out; have := O164.out; omega)
  obtain ⟨A36, c37, rfl, hle, hC⟩ := Kd.S_reads hF39b
  have HC40 := Aside0.mk hC
  have HL41 := Aside0.mk hle
  clear hle hC
  have F39 := Aside0.mk (show Kd.S (Kd.slice 3 (Kd.int .i64)) 31 w5 w.heap.size (fun k_ => (lo162 ≤ k_ ∧ k_ < hi163) ∧ True) (.slice A36 x10.length c37) x10 from hF39b)
  clear hF39 hF39b
  replace HN := Aside0.mk (show hi163 ≤ w5.heap.size from ho.2.2)
  clear ho hg
  replace HB := HB2
  clear HB2 hb
  go_wp2_with fail
  go_at_call 13
  refine (laws_toIntSS.calls k A1 c1 l1 x18 _ (Kd.C_below HR1.out (by repeat (first | exact HB.out | apply pw_below_drewN | apply below_drew1))) HL1.out H131.out).mono ?_
  rintro e w6 ⟨v44, rfl, hF45, hb⟩
  have HB2 := Aside0.mk (below_next (N := hi163) (by repeat (first | exact HB.out | apply pw_below_drewN | apply below_drew1)) (by exact HN.out) (by have := O152.out; have := O155.out; have := O158.out; have := O161.out; have := O164.out; omega) hb)
  replace F30 := Aside0.mk (show Kd.S (Kd.slice 3 (Kd.int .i64)) 31 w6 w.heap.size (fun k_ => (lo159 ≤ k_ ∧ k_ < hi160) ∧ True) (.slice A27 x33.length c28) x33 from Kd.S_below (by (with_reducible repeat (first | apply Kd.S_drewN | apply Kd.S_drew)); exact F30.out) hb)
  replace HC31 := Aside0.mk (show Kd.C (Kd.slice 3 (Kd.int .i64)) w6 A27 x33.length x33 from Kd.C_below (by (with_reducible repeat (first | apply Kd.C_drewN | apply Kd.C_drew)); exact HC31.out) hb)
  replace F39 := Aside0.mk (show Kd.S (Kd.slice 3 (Kd.int .i64)) 31 w6 w.heap.size (fun k_ => (lo162 ≤ k_ ∧ k_ < hi163) ∧ True) (.slice A36 x10.length c37) x10 from Kd.S_below (by (with_reducible repeat (first | apply Kd.S_drewN | apply Kd.S_drew)); exact F39.out) hb)
  replace HC40 := Aside0.mk (show Kd.C (Kd.slice 3 (Kd.int .i64)) w6 A36 x10.length x10 from Kd.C_below (by (with_reducible repeat (first | apply Kd.C_drewN | apply Kd.C_drew)); exact HC40.out) hb)
  obtain ⟨lo165, hi166, ho, hg⟩ := fresh_pts (N := hi163) hb (by exact HN.out)
  have O167 := Aside0.mk (show hi163 ≤ lo165 ∧ lo165 ≤ hi166 from ⟨ho.1, ho.2.1⟩)
  have hF45b := S_in hF45 hg (B := w.heap.size) (by have := O152.out; have := O155.out; have := O158.out; have := O161.out; have := O164.out; have := O167.out; omega)
  obtain ⟨A42, c43, rfl, hle, hC⟩ := Kd.S_reads hF45b
  have HC46 := Aside0.mk hC
  have HL47 := Aside0.mk hle
  clear hle hC
  have F45 := Aside0.mk (show Kd.S (Kd.slice 3 (Kd.int .i64)) 31 w6 w.heap.size (fun k_ => (lo165 ≤ k_ ∧ k_ < hi166) ∧ True) (.slice A42 x18.length c43) x18 from hF45b)
  clear hF45 hF45b
  replace HN := Aside0.mk (show hi166 ≤ w6.heap.size from ho.2.2)
  clear ho hg
  replace HB := HB2
  clear HB2 hb
  go_wp2_with fail
  go_at_call 21
  refine (laws_toIntS.calls k A2 c2 l2 x26 _ (Kd.C_below HR2.out (by repeat (first | exact HB.out | apply pw_below_drewN | apply below_drew1))) HL2.out H132.out).mono ?_
  rintro e w7 ⟨v50, rfl, hF51, hb⟩
  have HB2 := Aside0.mk (below_next (N := hi166) (by repeat (first | exact HB.out | apply pw_below_drewN | apply below_drew1)) (by exact HN.out) (by have := O152.out; have := O155.out; have := O158.out; have := O161.out; have := O164.out; have := O167.out; omega) hb)
  replace F30 := Aside0.mk (show Kd.S (Kd.slice 3 (Kd.int .i64)) 31 w7 w.heap.size (fun k_ => (lo159 ≤ k_ ∧ k_ < hi160) ∧ True) (.slice A27 x33.length c28) x33 from Kd.S_below (by (with_reducible repeat (first | apply Kd.S_drewN | apply Kd.S_drew)); exact F30.out) hb)
  replace HC31 := Aside0.mk (show Kd.C (Kd.slice 3 (Kd.int .i64)) w7 A27 x33.length x33 from Kd.C_below (by (with_reducible repeat (first | apply Kd.C_drewN | apply Kd.C_drew)); exact HC31.out) hb)
  replace F39 := Aside0.mk (show Kd.S (Kd.slice 3 (Kd.int .i64)) 31 w7 w.heap.size (fun k_ => (lo162 ≤ k_ ∧ k_ < hi163) ∧ True) (.slice A36 x10.length c37) x10 from Kd.S_below (by (with_reducible repeat (first | apply Kd.S_drewN | apply Kd.S_drew)); exact F39.out) hb)
  replace HC40 := Aside0.mk (show Kd.C (Kd.slice 3 (Kd.int .i64)) w7 A36 x10.length x10 from Kd.C_below (by (with_reducible repeat (first | apply Kd.C_drewN | apply Kd.C_drew)); exact HC40.out) hb)
  replace F45 := Aside0.mk (show Kd.S (Kd.slice 3 (Kd.int .i64)) 31 w7 w.heap.size (fun k_ => (lo165 ≤ k_ ∧ k_ < hi166) ∧ True) (.slice A42 x18.length c43) x18 from Kd.S_below (by (with_reducible repeat (first | apply Kd.S_drewN | apply Kd.S_drew)); exact F45.out) hb)
  replace HC46 := Aside0.mk (show Kd.C (Kd.slice 3 (Kd.int .i64)) w7 A42 x18.length x18 from Kd.C_below (by (with_reducible repeat (first | apply Kd.C_drewN | apply Kd.C_drew)); exact HC46.out) hb)
  obtain ⟨lo168, hi169, ho, hg⟩ := fresh_pts (N := hi166) hb (by exact HN.out)
  have O170 := Aside0.mk (show hi166 ≤ lo168 ∧ lo168 ≤ hi169 from ⟨ho.1, ho.2.1⟩)
  have hF51b := R_in hF51 hg (B := w.heap.size) (by have := O152.out; have := O155.out; have := O158.out; have := O161.out; have := O164.out; have := O167.out; have := O170.out; omega)
  obtain ⟨A48, c49, rfl, hle, hC⟩ := Kd.R_reads hF51b
  have HC52 := Aside0.mk hC
  have HL53 := Aside0.mk hle
  clear hle hC
  have F51 := Aside0.mk (show Kd.R (Kd.int .i64) 3 w7 w.heap.size (fun k_ => (lo168 ≤ k_ ∧ k_ < hi169) ∧ True) (.slice A48 x26.length c49) x26 from hF51b)
  clear hF51 hF51b
  replace HN := Aside0.mk (show hi169 ≤ w7.heap.size from ho.2.2)
  clear ho hg
  replace HB := HB2
  clear HB2 hb
  go_wp2_with fail
  go_at_call 25
  refine (impl_PushWay.calls k A36 c37 x10 A42 c43 x18 A48 c49 x26 x33 x34 x35 _ (by (with_reducible repeat (first | apply Kd.C_drewN | apply Kd.C_drew)); exact HC40.out) HL41.out (by (with_reducible repeat (first | apply Kd.C_drewN | apply Kd.C_drew)); exact HC46.out) HL47.out (by (with_reducible repeat (first | apply Kd.C_drewN | apply Kd.C_drew)); exact HC52.out) HL53.out H134.out).mono ?_
  rintro e w8 ⟨v56, rfl, hF57, hb⟩
  have HB2 := Aside0.mk (below_next (N := hi169) (by repeat (first | exact HB.out | apply pw_below_drewN | apply below_drew1)) (by exact HN.out) (by have := O152.out; have := O155.out; have := O158.out; have := O161.out; have := O164.out; have := O167.out; have := O170.out; omega) hb)
  replace F30 := Aside0.mk (show Kd.S (Kd.slice 3 (Kd.int .i64)) 31 w8 w.heap.size (fun k_ => (lo159 ≤ k_ ∧ k_ < hi160) ∧ True) (.slice A27 x33.length c28) x33 from Kd.S_below (by (with_reducible repeat (first | apply Kd.S_drewN | apply Kd.S_drew)); exact F30.out) hb)
  replace HC31 := Aside0.mk (show Kd.C (Kd.slice 3 (Kd.int .i64)) w8 A27 x33.length x33 from Kd.C_below (by (with_reducible repeat (first | apply Kd.C_drewN | apply Kd.C_drew)); exact HC31.out) hb)
  replace F39 := Aside0.mk (show Kd.S (Kd.slice 3 (Kd.int .i64)) 31 w8 w.heap.size (fun k_ => (lo162 ≤ k_ ∧ k_ < hi163) ∧ True) (.slice A36 x10.length c37) x10 from Kd.S_below (by (with_reducible repeat (first | apply Kd.S_drewN | apply Kd.S_drew)); exact F39.out) hb)
  replace HC40 := Aside0.mk (show Kd.C (Kd.slice 3 (Kd.int .i64)) w8 A36 x10.length x10 from Kd.C_below (by (with_reducible repeat (first | apply Kd.C_drewN | apply Kd.C_drew)); exact HC40.out) hb)
  replace F45 := Aside0.mk (show Kd.S (Kd.slice 3 (Kd.int .i64)) 31 w8 w.heap.size (fun k_ => (lo165 ≤ k_ ∧ k_ < hi166) ∧ True) (.slice A42 x18.length c43) x18 from Kd.S_below (by (with_reducible repeat (first | apply Kd.S_drewN | apply Kd.S_drew)); exact F45.out) hb)
  replace HC46 := Aside0.mk (show Kd.C (Kd.slice 3 (Kd.int .i64)) w8 A42 x18.length x18 from Kd.C_below (by (with_reducible repeat (first | apply Kd.C_drewN | apply Kd.C_drew)); exact HC46.out) hb)
  replace F51 := Aside0.mk (show Kd.R (Kd.int .i64) 3 w8 w.heap.size (fun k_ => (lo168 ≤ k_ ∧ k_ < hi169) ∧ True) (.slice A48 x26.length c49) x26 from Kd.R_below (by (with_reducible repeat (first | apply Kd.R_drewN | apply Kd.R_drew)); exact F51.out) hb)
  replace HC52 := Aside0.mk (show Kd.C (Kd.int .i64) w8 A48 x26.length x26 from Kd.C_below (by (with_reducible repeat (first | apply Kd.C_drewN | apply Kd.C_drew)); exact HC52.out) hb)
  obtain ⟨lo171, hi172, ho, hg⟩ := fresh_pts (N := hi169) hb (by exact HN.out)
  have O173 := Aside0.mk (show hi169 ≤ lo171 ∧ lo171 ≤ hi172 from ⟨ho.1, ho.2.1⟩)
  have hF57b := S_in hF57 hg (B := w.heap.size) (by have := O152.out; have := O155.out; have := O158.out; have := O161.out; have := O164.out; have := O167.out; have := O170.out; have := O173.out; omega)
  obtain ⟨A54, c55, rfl, hle, hC⟩ := Kd.S_reads hF57b
  have HC58 := Aside0.mk hC
  have HL59 := Aside0.mk hle
  clear hle hC
  have F57 := Aside0.mk (show Kd.S (Kd.slice 3 (Kd.int .i64)) 31 w8 w.heap.size (fun k_ => (lo171 ≤ k_ ∧ k_ < hi172) ∧ True) (.slice A54 x33.length c55) x33 from hF57b)
  clear hF57 hF57b
  replace HN := Aside0.mk (show hi172 ≤ w8.heap.size from ho.2.2)
  clear ho hg
  replace HB := HB2
  clear HB2 hb
  go_wp2_with fail
  go_at_call 15
  refine (laws_eqIntSS.calls k A54 c55 x33 A27 c28 x33 true _ (by (with_reducible repeat (first | apply Kd.C_drewN | apply Kd.C_drew)); exact HC58.out) HL59.out (by (with_reducible repeat (first | apply Kd.C_drewN | apply Kd.C_drew)); exact HC31.out) HL32.out H135.out).mono ?_
  rintro e w_174 ⟨rfl, ⟨nd175, rfl⟩⟩
  go_wp2_with fail
  go_at_call 13
  refine (laws_toIntSS.calls k A0 c0 l0 x10 _ (Kd.C_below HR0.out (by repeat (first | exact HB.out | apply pw_below_drewN | apply below_drew1))) HL0.out H130.out).mono ?_
  rintro e w9 ⟨v63, rfl, hF64, hb⟩
  have HB2 := Aside0.mk (below_next (N := hi172) (by repeat (first | exact HB.out | apply pw_below_drewN | apply below_drew1)) (by exact HN.out) (by have := O152.out; have := O155.out; have := O158.out; have := O161.out; have := O164.out; have := O167.out; have := O170.out; have := O173.out; omega) hb)
  replace F30 := Aside0.mk (show Kd.S (Kd.slice 3 (Kd.int .i64)) 31 w9 w.heap.size (fun k_ => (lo159 ≤ k_ ∧ k_ < hi160) ∧ True) (.slice A27 x33.length c28) x33 from Kd.S_below (by (with_reducible repeat (first | apply Kd.S_drewN | apply Kd.S_drew)); exact F30.out) hb)
  replace HC31 := Aside0.mk (show Kd.C (Kd.slice 3 (Kd.int .i64)) w9 A27 x33.length x33 from Kd.C_below (by (with_reducible repeat (first | apply Kd.C_drewN | apply Kd.C_drew)); exact HC31.out) hb)
  replace F39 := Aside0.mk (show Kd.S (Kd.slice 3 (Kd.int .i64)) 31 w9 w.heap.size (fun k_ => (lo162 ≤ k_ ∧ k_ < hi163) ∧ True) (.slice A36 x10.length c37) x10 from Kd.S_below (by (with_reducible repeat (first | apply Kd.S_drewN | apply Kd.S_drew)); exact F39.out) hb)
  replace HC40 := Aside0.mk (show Kd.C (Kd.slice 3 (Kd.int .i64)) w9 A36 x10.length x10 from Kd.C_below (by (with_reducible repeat (first | apply Kd.C_drewN | apply Kd.C_drew)); exact HC40.out) hb)
  replace F45 := Aside0.mk (show Kd.S (Kd.slice 3 (Kd.int .i64)) 31 w9 w.heap.size (fun k_ => (lo165 ≤ k_ ∧ k_ < hi166) ∧ True) (.slice A42 x18.length c43) x18 from Kd.S_below (by (with_reducible repeat (first | apply Kd.S_drewN | apply Kd.S_drew)); exact F45.out) hb)
  replace HC46 := Aside0.mk (show Kd.C (Kd.slice 3 (Kd.int .i64)) w9 A42 x18.length x18 from Kd.C_below (by (with_reducible repeat (first | apply Kd.C_drewN | apply Kd.C_drew)); exact HC46.out) hb)
  replace F51 := Aside0.mk (show Kd.R (Kd.int .i64) 3 w9 w.heap.size (fun k_ => (lo168 ≤ k_ ∧ k_ < hi169) ∧ True) (.slice A48 x26.length c49) x26 from Kd.R_below (by (with_reducible repeat (first | apply Kd.R_drewN | apply Kd.R_drew)); exact F51.out) hb)
  replace HC52 := Aside0.mk (show Kd.C (Kd.int .i64) w9 A48 x26.length x26 from Kd.C_below (by (with_reducible repeat (first | apply Kd.C_drewN | apply Kd.C_drew)); exact HC52.out) hb)
  replace F57 := Aside0.mk (show Kd.S (Kd.slice 3 (Kd.int .i64)) 31 w9 w.heap.size (fun k_ => (lo171 ≤ k_ ∧ k_ < hi172) ∧ True) (.slice A54 x33.length c55) x33 from Kd.S_below (by (with_reducible repeat (first | apply Kd.S_drewN | apply Kd.S_drew)); exact F57.out) hb)
  replace HC58 := Aside0.mk (show Kd.C (Kd.slice 3 (Kd.int .i64)) w9 A54 x33.length x33 from Kd.C_below (by (with_reducible repeat (first | apply Kd.C_drewN | apply Kd.C_drew)); exact HC58.out) hb)
  obtain ⟨lo176, hi177, ho, hg⟩ := fresh_pts (N := hi172) hb (by exact HN.out)
  have O178 := Aside0.mk (show hi172 ≤ lo176 ∧ lo176 ≤ hi177 from ⟨ho.1, ho.2.1⟩)
  have hF64b := S_in hF64 hg (B := w.heap.size) (by have := O152.out; have := O155.out; have := O158.out; have := O161.out; have := O164.out; have := O167.out; have := O170.out; have := O173.out; have := O178.out; omega)
  obtain ⟨A61, c62, rfl, hle, hC⟩ := Kd.S_reads hF64b
  have HC65 := Aside0.mk hC
  have HL66 := Aside0.mk hle
  clear hle hC
  have F64 := Aside0.mk (show Kd.S (Kd.slice 3 (Kd.int .i64)) 31 w9 w.heap.size (fun k_ => (lo176 ≤ k_ ∧ k_ < hi177) ∧ True) (.slice A61 x10.length c62) x10 from hF64b)
  clear hF64 hF64b
  replace HN := Aside0.mk (show hi177 ≤ w9.heap.size from ho.2.2)
  clear ho hg
  replace HB := HB2
  clear HB2 hb
  go_wp2_with fail
  go_at_call 15
  refine (laws_eqIntSS.calls k A36 c37 x10 A61 c62 x10 true _ (by (with_reducible repeat (first | apply Kd.C_drewN | apply Kd.C_drew)); exact HC40.out) HL41.out (by (with_reducible repeat (first | apply Kd.C_drewN | apply Kd.C_drew)); exact HC65.out) HL66.out H136.out).mono ?_
  rintro e w_179 ⟨rfl, ⟨nd180, rfl⟩⟩
  clear F64 HC65
  go_wp2_with fail
  go_at_call 13
  refine (laws_toIntSS.calls k A1 c1 l1 x18 _ (Kd.C_below HR1.out (by repeat (first | exact HB.out | apply pw_below_drewN | apply below_drew1))) HL1.out H131.out).mono ?_
  rintro e w10 ⟨v70, rfl, hF71, hb⟩
  have HB2 := Aside0.mk (below_next (N := hi177) (by repeat (first | exact HB.out | apply pw_below_drewN | apply below_drew1)) (by exact HN.out) (by have := O152.out; have := O155.out; have := O158.out; have := O161.out; have := O164.out; have := O167.out; have := O170.out; have := O173.out; have := O178.out; omega) hb)
  replace F30 := Aside0.mk (show Kd.S (Kd.slice 3 (Kd.int .i64)) 31 w10 w.heap.size (fun k_ => (lo159 ≤ k_ ∧ k_ < hi160) ∧ True) (.slice A27 x33.length c28) x33 from Kd.S_below (by (with_reducible repeat (first | apply Kd.S_drewN | apply Kd.S_drew)); exact F30.out) hb)
  replace HC31 := Aside0.mk (show Kd.C (Kd.slice 3 (Kd.int .i64)) w10 A27 x33.length x33 from Kd.C_below (by (with_reducible repeat (first | apply Kd.C_drewN | apply Kd.C_drew)); exact HC31.out) hb)
  replace F39 := Aside0.mk (show Kd.S (Kd.slice 3 (Kd.int .i64)) 31 w10 w.heap.size (fun k_ => (lo162 ≤ k_ ∧ k_ < hi163) ∧ True) (.slice A36 x10.length c37) x10 from Kd.S_below (by (with_reducible repeat (first | apply Kd.S_drewN | apply Kd.S_drew)); exact F39.out) hb)
  replace HC40 := Aside0.mk (show Kd.C (Kd.slice 3 (Kd.int .i64)) w10 A36 x10.length x10 from Kd.C_below (by (with_reducible repeat (first | apply Kd.C_drewN | apply Kd.C_drew)); exact HC40.out) hb)
  replace F45 := Aside0.mk (show Kd.S (Kd.slice 3 (Kd.int .i64)) 31 w10 w.heap.size (fun k_ => (lo165 ≤ k_ ∧ k_ < hi166) ∧ True) (.slice A42 x18.length c43) x18 from Kd.S_below (by (with_reducible repeat (first | apply Kd.S_drewN | apply Kd.S_drew)); exact F45.out) hb)
  replace HC46 := Aside0.mk (show Kd.C (Kd.slice 3 (Kd.int .i64)) w10 A42 x18.length x18 from Kd.C_below (by (with_reducible repeat (first | apply Kd.C_drewN | apply Kd.C_drew)); exact HC46.out) hb)
  replace F51 := Aside0.mk (show Kd.R (Kd.int .i64) 3 w10 w.heap.size (fun k_ => (lo168 ≤ k_ ∧ k_ < hi169) ∧ True) (.slice A48 x26.length c49) x26 from Kd.R_below (by (with_reducible repeat (first | apply Kd.R_drewN | apply Kd.R_drew)); exact F51.out) hb)
  replace HC52 := Aside0.mk (show Kd.C (Kd.int .i64) w10 A48 x26.length x26 from Kd.C_below (by (with_reducible repeat (first | apply Kd.C_drewN | apply Kd.C_drew)); exact HC52.out) hb)
  replace F57 := Aside0.mk (show Kd.S (Kd.slice 3 (Kd.int .i64)) 31 w10 w.heap.size (fun k_ => (lo171 ≤ k_ ∧ k_ < hi172) ∧ True) (.slice A54 x33.length c55) x33 from Kd.S_below (by (with_reducible repeat (first | apply Kd.S_drewN | apply Kd.S_drew)); exact F57.out) hb)
  replace HC58 := Aside0.mk (show Kd.C (Kd.slice 3 (Kd.int .i64)) w10 A54 x33.length x33 from Kd.C_below (by (with_reducible repeat (first | apply Kd.C_drewN | apply Kd.C_drew)); exact HC58.out) hb)
  obtain ⟨lo181, hi182, ho, hg⟩ := fresh_pts (N := hi177) hb (by exact HN.out)
  have O183 := Aside0.mk (show hi177 ≤ lo181 ∧ lo181 ≤ hi182 from ⟨ho.1, ho.2.1⟩)
  have hF71b := S_in hF71 hg (B := w.heap.size) (by have := O152.out; have := O155.out; have := O158.out; have := O161.out; have := O164.out; have := O167.out; have := O170.out; have := O173.out; have := O178.out; have := O183.out; omega)
  obtain ⟨A68, c69, rfl, hle, hC⟩ := Kd.S_reads hF71b
  have HC72 := Aside0.mk hC
  have HL73 := Aside0.mk hle
  clear hle hC
  have F71 := Aside0.mk (show Kd.S (Kd.slice 3 (Kd.int .i64)) 31 w10 w.heap.size (fun k_ => (lo181 ≤ k_ ∧ k_ < hi182) ∧ True) (.slice A68 x18.length c69) x18 from hF71b)
  clear hF71 hF71b
  replace HN := Aside0.mk (show hi182 ≤ w10.heap.size from ho.2.2)
  clear ho hg
  replace HB := HB2
  clear HB2 hb
  go_wp2_with fail
  go_at_call 15
  refine (laws_eqIntSS.calls k A42 c43 x18 A68 c69 x18 true _ (by (with_reducible repeat (first | apply Kd.C_drewN | apply Kd.C_drew)); exact HC46.out) HL47.out (by (with_reducible repeat (first | apply Kd.C_drewN | apply Kd.C_drew)); exact HC72.out) HL73.out H137.out).mono ?_
  rintro e w_184 ⟨rfl, ⟨nd185, rfl⟩⟩
  clear F71 HC72
  go_wp2_with fail
  go_at_call 21
  refine (laws_toIntS.calls k A2 c2 l2 x26 _ (Kd.C_below HR2.out (by repeat (first | exact HB.out | apply pw_below_drewN | apply below_drew1))) HL2.out H132.out).mono ?_
  rintro e w11 ⟨v77, rfl, hF78, hb⟩
  have HB2 := Aside0.mk (below_next (N := hi182) (by repeat (first | exact HB.out | apply pw_below_drewN | apply below_drew1)) (by exact HN.out) (by have := O152.out; have := O155.out; have := O158.out; have := O161.out; have := O164.out; have := O167.out; have := O170.out; have := O173.out; have := O178.out; have := O183.out; omega) hb)
  replace F30 := Aside0.mk (show Kd.S (Kd.slice 3 (Kd.int .i64)) 31 w11 w.heap.size (fun k_ => (lo159 ≤ k_ ∧ k_ < hi160) ∧ True) (.slice A27 x33.length c28) x33 from Kd.S_below (by (with_reducible repeat (first | apply Kd.S_drewN | apply Kd.S_drew)); exact F30.out) hb)
  replace HC31 := Aside0.mk (show Kd.C (Kd.slice 3 (Kd.int .i64)) w11 A27 x33.length x33 from Kd.C_below (by (with_reducible repeat (first | apply Kd.C_drewN | apply Kd.C_drew)); exact HC31.out) hb)
  replace F39 := Aside0.mk (show Kd.S (Kd.slice 3 (Kd.int .i64)) 31 w11 w.heap.size (fun k_ => (lo162 ≤ k_ ∧ k_ < hi163) ∧ True) (.slice A36 x10.length c37) x10 from Kd.S_below (by (with_reducible repeat (first | apply Kd.S_drewN | apply Kd.S_drew)); exact F39.out) hb)
  replace HC40 := Aside0.mk (show Kd.C (Kd.slice 3 (Kd.int .i64)) w11 A36 x10.length x10 from Kd.C_below (by (with_reducible repeat (first | apply Kd.C_drewN | apply Kd.C_drew)); exact HC40.out) hb)
  replace F45 := Aside0.mk (show Kd.S (Kd.slice 3 (Kd.int .i64)) 31 w11 w.heap.size (fun k_ => (lo165 ≤ k_ ∧ k_ < hi166) ∧ True) (.slice A42 x18.length c43) x18 from Kd.S_below (by (with_reducible repeat (first | apply Kd.S_drewN | apply Kd.S_drew)); exact F45.out) hb)
  replace HC46 := Aside0.mk (show Kd.C (Kd.slice 3 (Kd.int .i64)) w11 A42 x18.length x18 from Kd.C_below (by (with_reducible repeat (first | apply Kd.C_drewN | apply Kd.C_drew)); exact HC46.out) hb)
  replace F51 := Aside0.mk (show Kd.R (Kd.int .i64) 3 w11 w.heap.size (fun k_ => (lo168 ≤ k_ ∧ k_ < hi169) ∧ True) (.slice A48 x26.length c49) x26 from Kd.R_below (by (with_reducible repeat (first | apply Kd.R_drewN | apply Kd.R_drew)); exact F51.out) hb)
  replace HC52 := Aside0.mk (show Kd.C (Kd.int .i64) w11 A48 x26.length x26 from Kd.C_below (by (with_reducible repeat (first | apply Kd.C_drewN | apply Kd.C_drew)); exact HC52.out) hb)
  replace F57 := Aside0.mk (show Kd.S (Kd.slice 3 (Kd.int .i64)) 31 w11 w.heap.size (fun k_ => (lo171 ≤ k_ ∧ k_ < hi172) ∧ True) (.slice A54 x33.length c55) x33 from Kd.S_below (by (with_reducible repeat (first | apply Kd.S_drewN | apply Kd.S_drew)); exact F57.out) hb)
  replace HC58 := Aside0.mk (show Kd.C (Kd.slice 3 (Kd.int .i64)) w11 A54 x33.length x33 from Kd.C_below (by (with_reducible repeat (first | apply Kd.C_drewN | apply Kd.C_drew)); exact HC58.out) hb)
  obtain ⟨lo186, hi187, ho, hg⟩ := fresh_pts (N := hi182) hb (by exact HN.out)
  have O188 := Aside0.mk (show hi182 ≤ lo186 ∧ lo186 ≤ hi187 from ⟨ho.1, ho.2.1⟩)
  have hF78b := R_in hF78 hg (B := w.heap.size) (by have := O152.out; have := O155.out; have := O158.out; have := O161.out; have := O164.out; have := O167.out; have := O170.out; have := O173.out; have := O178.out; have := O183.out; have := O188.out; omega)
  obtain ⟨A75, c76, rfl, hle, hC⟩ := Kd.R_reads hF78b
  have HC79 := Aside0.mk hC
  have HL80 := Aside0.mk hle
  clear hle hC
  have F78 := Aside0.mk (show Kd.R (Kd.int .i64) 3 w11 w.heap.size (fun k_ => (lo186 ≤ k_ ∧ k_ < hi187) ∧ True) (.slice A75 x26.length c76) x26 from hF78b)
  clear hF78 hF78b
  replace HN := Aside0.mk (show hi187 ≤ w11.heap.size from ho.2.2)
  clear ho hg
  replace HB := HB2
  clear HB2 hb
  go_wp2_with fail
  go_at_call 23
  refine (laws_eqIntS.calls k A48 c49 x26 A75 c76 x26 true _ (by (with_reducible repeat (first | apply Kd.C_drewN | apply Kd.C_drew)); exact HC52.out) HL53.out (by (with_reducible repeat (first | apply Kd.C_drewN | apply Kd.C_drew)); exact HC79.out) HL80.out H138.out).mono ?_
  rintro e w_189 ⟨rfl, ⟨nd190, rfl⟩⟩
  clear F78 HC79
  go_wp2_with fail
  go_at_call 26
  refine (laws_markIntSS.marks (fun k_ => (lo162 ≤ k_ ∧ k_ < hi163) ∧ True) (.slice A36 x10.length c37) x10 1 t81 x82 w _ (by repeat (first | exact HB.out | apply pw_below_drewN | apply below_drew1)) (by (with_reducible repeat (first | apply Kd.S_drewN | apply Kd.S_drew)); exact F39.out) H139.out).mono ?_
  rintro e w12 ⟨rfl, hF0, hB2, hK⟩
  replace F30 := Aside0.mk (show Kd.S (Kd.slice 3 (Kd.int .i64)) 31 w12 w.heap.size (fun k_ => (lo159 ≤ k_ ∧ k_ < hi160) ∧ True) (.slice A27 x33.length c28) x33 from Kd.S_kept (S := (fun k_ => (lo162 ≤ k_ ∧ k_ < hi163) ∧ True)) (by (with_reducible repeat (first | apply Kd.S_drewN | apply Kd.S_drew)); exact F30.out) hK (fun k_ h1_ h2_ => by have h3_ := h1_.1; have h4_ := h2_.1; have := O152.out; have := O155.out; have := O158.out; have := O161.out; have := O164.out; have := O167.out; have := O170.out; have := O173.out; have := O178.out; have := O183.out; have := O188.out; omega))
  replace HC31 := Aside0.mk (show Kd.C (Kd.slice 3 (Kd.int .i64)) w12 A27 x33.length x33 from (Kd.S_reads' F30.out).2.2)
  replace F45 := Aside0.mk (show Kd.S (Kd.slice 3 (Kd.int .i64)) 31 w12 w.heap.size (fun k_ => (lo165 ≤ k_ ∧ k_ < hi166) ∧ True) (.slice A42 x18.length c43) x18 from Kd.S_kept (S := (fun k_ => (lo162 ≤ k_ ∧ k_ < hi163) ∧ True)) (by (with_reducible repeat (first | apply Kd.S_drewN | apply Kd.S_drew)); exact F45.out) hK (fun k_ h1_ h2_ => by have h3_ := h1_.1; have h4_ := h2_.1; have := O152.out; have := O155.out; have := O158.out; have := O161.out; have := O164.out; have := O167.out; have := O170.out; have := O173.out; have := O178.out; have := O183.out; have := O188.out; omega))
  replace HC46 := Aside0.mk (show Kd.C (Kd.slice 3 (Kd.int .i64)) w12 A42 x18.length x18 from (Kd.S_reads' F45.out).2.2)
  replace F51 := Aside0.mk (show Kd.R (Kd.int .i64) 3 w12 w.heap.size (fun k_ => (lo168 ≤ k_ ∧ k_ < hi169) ∧ True) (.slice A48 x26.length c49) x26 from Kd.R_kept (S := (fun k_ => (lo162 ≤ k_ ∧ k_ < hi163) ∧ True)) (by (with_reducible repeat (first | apply Kd.R_drewN | apply Kd.R_drew)); exact F51.out) hK (fun k_ h1_ h2_ => by have h3_ := h1_.1; have h4_ := h2_.1; have := O152.out; have := O155.out; have := O158.out; have := O161.out; have := O164.out; have := O167.out; have := O170.out; have := O173.out; have := O178.out; have := O183.out; have := O188.out; omega))
  replace HC52 := Aside0.mk (show Kd.C (Kd.int .i64) w12 A48 x26.length x26 from (Kd.R_reads' F51.out).2.2)
  replace F57 := Aside0.mk (show Kd.S (Kd.slice 3 (Kd.int .i64)) 31 w12 w.heap.size (fun k_ => (lo171 ≤ k_ ∧ k_ < hi172) ∧ True) (.slice A54 x33.length c55) x33 from Kd.S_kept (S := (fun k_ => (lo162 ≤ k_ ∧ k_ < hi163) ∧ True)) (by (with_reducible repeat (first | apply Kd.S_drewN | apply Kd.S_drew)); exact F57.out) hK (fun k_ h1_ h2_ => by have h3_ := h1_.1; have h4_ := h2_.1; have := O152.out; have := O155.out; have := O158.out; have := O161.out; have := O164.out; have := O167.out; have := O170.out; have := O173.out; have := O178.out; have := O183.out; have := O188.out; omega))
  replace HC58 := Aside0.mk (show Kd.C (Kd.slice 3 (Kd.int .i64)) w12 A54 x33.length x33 from (Kd.S_reads' F57.out).2.2)
  clear F39 HC40
  replace HN := Aside0.mk (show hi187 ≤ w12.heap.size from Nat.le_trans HN.out hK.1)
  replace HB := Aside0.mk hB2
  clear hB2 hK hF0
  go_wp2_with fail
  go_at_call 26
  refine (laws_markIntSS.marks (fun k_ => (lo165 ≤ k_ ∧ k_ < hi166) ∧ True) (.slice A42 x18.length c43) x18 t81 t83 x84 w _ (by repeat (first | exact HB.out | apply pw_below_drewN | apply below_drew1)) (by (with_reducible repeat (first | apply Kd.S_drewN | apply Kd.S_drew)); exact F45.out) H140.out).mono ?_
  rintro e w13 ⟨rfl, hF0, hB2, hK⟩
  replace F30 := Aside0.mk (show Kd.S (Kd.slice 3 (Kd.int .i64)) 31 w13 w.heap.size (fun k_ => (lo159 ≤ k_ ∧ k_ < hi160) ∧ True) (.slice A27 x33.length c28) x33 from Kd.S_kept (S := (fun k_ => (lo165 ≤ k_ ∧ k_ < hi166) ∧ True)) (by (with_reducible repeat (first | apply Kd.S_drewN | apply Kd.S_drew)); exact F30.out) hK (fun k_ h1_ h2_ => by have h3_ := h1_.1; have h4_ := h2_.1; have := O152.out; have := O155.out; have := O158.out; have := O161.out; have := O164.out; have := O167.out; have := O170.out; have := O173.out; have := O178.out; have := O183.out; have := O188.out; omega))
  replace HC31 := Aside0.mk (show Kd.C (Kd.slice 3 (Kd.int .i64)) w13 A27 x33.length x33 from (Kd.S_reads' F30.out).2.2)
  replace F51 := Aside0.mk (show Kd.R (Kd.int .i64) 3 w13 w.heap.size (fun k_ => (lo168 ≤ k_ ∧ k_ < hi169) ∧ True) (.slice A48 x26.length c49) x26 from Kd.R_kept (S := (fun k_ => (lo165 ≤ k_ ∧ k_ < hi166) ∧ True)) (by (with_reducible repeat (first | apply Kd.R_drewN | apply Kd.R_drew)); exact F51.out) hK (fun k_ h1_ h2_ => by have h3_ := h1_.1; have h4_ := h2_.1; have := O152.out; have := O155.out; have := O158.out; have := O161.out; have := O164.out; have := O167.out; have := O170.out; have := O173.out; have := O178.out; have := O183.out; have := O188.out; omega))
  replace HC52 := Aside0.mk (show Kd.C (Kd.int .i64) w13 A48 x26.length x26 from (Kd.R_reads' F51.out).2.2)
  replace F57 := Aside0.mk (show Kd.S (Kd.slice 3 (Kd.int .i64)) 31 w13 w.heap.size (fun k_ => (lo171 ≤ k_ ∧ k_ < hi172) ∧ True) (.slice A54 x33.length c55) x33 from Kd.S_kept (S := (fun k_ => (lo165 ≤ k_ ∧ k_ < hi166) ∧ True)) (by (with_reducible repeat (first | apply Kd.S_drewN | apply Kd.S_drew)); exact F57.out) hK (fun k_ h1_ h2_ => by have h3_ := h1_.1; have h4_ := h2_.1; have := O152.out; have := O155.out; have := O158.out; have := O161.out; have := O164.out; have := O167.out; have := O170.out; have := O173.out; have := O178.out; have := O183.out; have := O188.out; omega))
  replace HC58 := Aside0.mk (show Kd.C (Kd.slice 3 (Kd.int .i64)) w13 A54 x33.length x33 from (Kd.S_reads' F57.out).2.2)
  clear F45 HC46
  replace HN := Aside0.mk (show hi187 ≤ w13.heap.size from Nat.le_trans HN.out hK.1)
  replace HB := Aside0.mk hB2
  clear hB2 hK hF0
  go_wp2_with fail
  go_at_call 27
  refine (laws_markIntS.calls k (fun k_ => some k_ = (.slice A48 x26.length c49 : Value).ownBlock) (.slice A48 x26.length c49) x26 t83 t85 x86 w _ (by repeat (first | exact HB.out | apply pw_below_drewN | apply below_drew1)) (Kd.R_tight rfl (by (with_reducible repeat (first | apply Kd.R_drewN | apply Kd.R_drew)); exact F51.out)) H141.out).mono ?_
  rintro e w14 ⟨rfl, hF0, hB2, hK⟩
  replace F30 := Aside0.mk (show Kd.S (Kd.slice 3 (Kd.int .i64)) 31 w14 w.heap.size (fun k_ => (lo159 ≤ k_ ∧ k_ < hi160) ∧ True) (.slice A27 x33.length c28) x33 from Kd.S_kept (S := (fun k_ => some k_ = (.slice A48 x26.length c49 : Value).ownBlock)) (by (with_reducible repeat (first | apply Kd.S_drewN | apply Kd.S_drew)); exact F30.out) hK (fun k_ h1_ h2_ => (fun e_ => by have h3_ := h1_.1; have h4_ := (F51.out.1 k_ e_.symm).1; have := O152.out; have := O155.out; have := O158.out; have := O161.out; have := O164.out; have := O167.out; have := O170.out; have := O173.out; have := O178.out; have := O183.out; have := O188.out; omega) h2_))
  replace HC31 := Aside0.mk (show Kd.C (Kd.slice 3 (Kd.int .i64)) w14 A27 x33.length x33 from (Kd.S_reads' F30.out).2.2)
  replace F57 := Aside0.mk (show Kd.S (Kd.slice 3 (Kd.int .i64)) 31 w14 w.heap.size (fun k_ => (lo171 ≤ k_ ∧ k_ < hi172) ∧ True) (.slice A54 x33.length c55) x33 from Kd.S_kept (S := (fun k_ => some k_ = (.slice A48 x26.length c49 : Value).ownBlock)) (by (with_reducible repeat (first | apply Kd.S_drewN | apply Kd.S_drew)); exact F57.out) hK (fun k_ h1_ h2_ => (fun e_ => by have h3_ := h1_.1; have h4_ := (F51.out.1 k_ e_.symm).1; have := O152.out; have := O155.out; have := O158.out; have := O161.out; have := O164.out; have := O167.out; have := O170.out; have := O173.out; have := O178.out; have := O183.out; have := O188.out; omega) h2_))
  replace HC58 := Aside0.mk (show Kd.C (Kd.slice 3 (Kd.int .i64)) w14 A54 x33.length x33 from (Kd.S_reads' F57.out).2.2)
  clear F51 HC52
  replace HN := Aside0.mk (show hi187 ≤ w14.heap.size from Nat.le_trans HN.out hK.1)
  replace HB := Aside0.mk hB2
  clear hB2 hK hF0
  have d194 : decide (t85 < 0) = false := decide_eq_false (by have := H142.out; omega)
  go_wp2_with fail
  go_at_call 15
  refine (laws_eqIntSS.calls k A54 c55 x33 A27 c28 x33 true _ (by (with_reducible repeat (first | apply Kd.C_drewN | apply Kd.C_drew)); exact HC58.out) HL59.out (by (with_reducible repeat (first | apply Kd.C_drewN | apply Kd.C_drew)); exact HC31.out) HL32.out H135.out).mono ?_
  rintro e w_195 ⟨rfl, ⟨nd196, rfl⟩⟩
  go_wp2_with fail
  go_at_call 26
  refine (laws_markIntSS.marks (fun k_ => (lo171 ≤ k_ ∧ k_ < hi172) ∧ True) (.slice A54 x33.length c55) x33 1 t87 x88 w _ (by repeat (first | exact HB.out | apply pw_below_drewN | apply below_drew1)) (by (with_reducible repeat (first | apply Kd.S_drewN | apply Kd.S_drew)); exact F57.out) H143.out).mono ?_
  rintro e w15 ⟨rfl, hF0, hB2, hK⟩
  replace F30 := Aside0.mk (show Kd.S (Kd.slice 3 (Kd.int .i64)) 31 w15 w.heap.size (fun k_ => (lo159 ≤ k_ ∧ k_ < hi160) ∧ True) (.slice A27 x33.length c28) x33 from Kd.S_kept (S := (fun k_ => (lo171 ≤ k_ ∧ k_ < hi172) ∧ True)) (by (with_reducible repeat (first | apply Kd.S_drewN | apply Kd.S_drew)); exact F30.out) hK (fun k_ h1_ h2_ => by have h3_ := h1_.1; have h4_ := h2_.1; have := O152.out; have := O155.out; have := O158.out; have := O161.out; have := O164.out; have := O167.out; have := O170.out; have := O173.out; have := O178.out; have := O183.out; have := O188.out; omega))
  replace HC31 := Aside0.mk (show Kd.C (Kd.slice 3 (Kd.int .i64)) w15 A27 x33.length x33 from (Kd.S_reads' F30.out).2.2)
  replace F57 := Aside0.mk (show Kd.S (Kd.slice 3 (Kd.int .i64)) 31 w15 w.heap.size (fun k_ => (lo171 ≤ k_ ∧ k_ < hi172) ∧ True) (.slice A54 x33.length c55) x88 from hF0)
  replace HC58 := Aside0.mk (show Kd.C (Kd.slice 3 (Kd.int .i64)) w15 A54 x88.length x88 from (Kd.S_reads' F57.out).2.2)
  have HQ197 := Aside0.mk (show x33.length = x88.length from (Kd.S_reads' F57.out).1)
  replace HL59 := Aside0.mk (show x88.length ≤ c55 from by rw [← HQ197.out]; exact HL59.out)
  replace HN := Aside0.mk (show hi187 ≤ w15.heap.size from Nat.le_trans HN.out hK.1)
  replace HB := Aside0.mk hB2
  clear hB2 hK hF0
  go_wp2_with fail
  go_at_call 28
  refine calls_of_args (args' := #[.slice A54 x88.length c55, .int .i64 1]) (by rw [HQ197.out]) ?_
  refine (laws_heldIntSS.calls k A54 c55 x88 1 t87 _ (by (with_reducible repeat (first | apply Kd.C_drewN | apply Kd.C_drew)); exact HC58.out) HL59.out H144.out).mono ?_
  rintro e w_198 ⟨rfl, ⟨nd199, rfl⟩⟩
  have d200 : decide (t87 < 0) = false := decide_eq_false (by have := H145.out; omega)
  go_wp2_with fail
  go_at_call 13
  refine (laws_toIntSS.calls k A0 c0 l0 x10 _ (Kd.C_below HR0.out (by repeat (first | exact HB.out | apply pw_below_drewN | apply below_drew1))) HL0.out H130.out).mono ?_
  rintro e w16 ⟨v92, rfl, hF93, hb⟩
  have HB2 := Aside0.mk (below_next (N := hi187) (by repeat (first | exact HB.out | apply pw_below_drewN | apply below_drew1)) (by exact HN.out) (by have := O152.out; have := O155.out; have := O158.out; have := O161.out; have := O164.out; have := O167.out; have := O170.out; have := O173.out; have := O178.out; have := O183.out; have := O188.out; omega) hb)
  replace F30 := Aside0.mk (show Kd.S (Kd.slice 3 (Kd.int .i64)) 31 w16 w.heap.size (fun k_ => (lo159 ≤ k_ ∧ k_ < hi160) ∧ True) (.slice A27 x33.length c28) x33 from Kd.S_below (by (with_reducible repeat (first | apply Kd.S_drewN | apply Kd.S_drew)); exact F30.out) hb)
  replace HC31 := Aside0.mk (show Kd.C (Kd.slice 3 (Kd.int .i64)) w16 A27 x33.length x33 from Kd.C_below (by (with_reducible repeat (first | apply Kd.C_drewN | apply Kd.C_drew)); exact HC31.out) hb)
  replace F57 := Aside0.mk (show Kd.S (Kd.slice 3 (Kd.int .i64)) 31 w16 w.heap.size (fun k_ => (lo171 ≤ k_ ∧ k_ < hi172) ∧ True) (.slice A54 x33.length c55) x88 from Kd.S_below (by (with_reducible repeat (first | apply Kd.S_drewN | apply Kd.S_drew)); exact F57.out) hb)
  replace HC58 := Aside0.mk (show Kd.C (Kd.slice 3 (Kd.int .i64)) w16 A54 x88.length x88 from Kd.C_below (by (with_reducible repeat (first | apply Kd.C_drewN | apply Kd.C_drew)); exact HC58.out) hb)
  obtain ⟨lo201, hi202, ho, hg⟩ := fresh_pts (N := hi187) hb (by exact HN.out)
  have O203 := Aside0.mk (show hi187 ≤ lo201 ∧ lo201 ≤ hi202 from ⟨ho.1, ho.2.1⟩)
  have hF93b := S_in hF93 hg (B := w.heap.size) (by have := O152.out; have := O155.out; have := O158.out; have := O161.out; have := O164.out; have := O167.out; have := O170.out; have := O173.out; have := O178.out; have := O183.out; have := O188.out; have := O203.out; omega)
  obtain ⟨A90, c91, rfl, hle, hC⟩ := Kd.S_reads hF93b
  have HC94 := Aside0.mk hC
  have HL95 := Aside0.mk hle
  clear hle hC
  have F93 := Aside0.mk (show Kd.S (Kd.slice 3 (Kd.int .i64)) 31 w16 w.heap.size (fun k_ => (lo201 ≤ k_ ∧ k_ < hi202) ∧ True) (.slice A90 x10.length c91) x10 from hF93b)
  clear hF93 hF93b
  replace HN := Aside0.mk (show hi202 ≤ w16.heap.size from ho.2.2)
  clear ho hg
  replace HB := HB2
  clear HB2 hb
  go_wp2_with fail
  go_at_call 13
  refine (laws_toIntSS.calls k A1 c1 l1 x18 _ (Kd.C_below HR1.out (by repeat (first | exact HB.out | apply pw_below_drewN | apply below_drew1))) HL1.out H131.out).mono ?_
  rintro e w17 ⟨v99, rfl, hF100, hb⟩
  have HB2 := Aside0.mk (below_next (N := hi202) (by repeat (first | exact HB.out | apply pw_below_drewN | apply below_drew1)) (by exact HN.out) (by have := O152.out; have := O155.out; have := O158.out; have := O161.out; have := O164.out; have := O167.out; have := O170.out; have := O173.out; have := O178.out; have := O183.out; have := O188.out; have := O203.out; omega) hb)
  replace F30 := Aside0.mk (show Kd.S (Kd.slice 3 (Kd.int .i64)) 31 w17 w.heap.size (fun k_ => (lo159 ≤ k_ ∧ k_ < hi160) ∧ True) (.slice A27 x33.length c28) x33 from Kd.S_below (by (with_reducible repeat (first | apply Kd.S_drewN | apply Kd.S_drew)); exact F30.out) hb)
  replace HC31 := Aside0.mk (show Kd.C (Kd.slice 3 (Kd.int .i64)) w17 A27 x33.length x33 from Kd.C_below (by (with_reducible repeat (first | apply Kd.C_drewN | apply Kd.C_drew)); exact HC31.out) hb)
  replace F57 := Aside0.mk (show Kd.S (Kd.slice 3 (Kd.int .i64)) 31 w17 w.heap.size (fun k_ => (lo171 ≤ k_ ∧ k_ < hi172) ∧ True) (.slice A54 x33.length c55) x88 from Kd.S_below (by (with_reducible repeat (first | apply Kd.S_drewN | apply Kd.S_drew)); exact F57.out) hb)
  replace HC58 := Aside0.mk (show Kd.C (Kd.slice 3 (Kd.int .i64)) w17 A54 x88.length x88 from Kd.C_below (by (with_reducible repeat (first | apply Kd.C_drewN | apply Kd.C_drew)); exact HC58.out) hb)
  replace F93 := Aside0.mk (show Kd.S (Kd.slice 3 (Kd.int .i64)) 31 w17 w.heap.size (fun k_ => (lo201 ≤ k_ ∧ k_ < hi202) ∧ True) (.slice A90 x10.length c91) x10 from Kd.S_below (by (with_reducible repeat (first | apply Kd.S_drewN | apply Kd.S_drew)); exact F93.out) hb)
  replace HC94 := Aside0.mk (show Kd.C (Kd.slice 3 (Kd.int .i64)) w17 A90 x10.length x10 from Kd.C_below (by (with_reducible repeat (first | apply Kd.C_drewN | apply Kd.C_drew)); exact HC94.out) hb)
  obtain ⟨lo204, hi205, ho, hg⟩ := fresh_pts (N := hi202) hb (by exact HN.out)
  have O206 := Aside0.mk (show hi202 ≤ lo204 ∧ lo204 ≤ hi205 from ⟨ho.1, ho.2.1⟩)
  have hF100b := S_in hF100 hg (B := w.heap.size) (by have := O152.out; have := O155.out; have := O158.out; have := O161.out; have := O164.out; have := O167.out; have := O170.out; have := O173.out; have := O178.out; have := O183.out; have := O188.out; have := O203.out; have := O206.out; omega)
  obtain ⟨A97, c98, rfl, hle, hC⟩ := Kd.S_reads hF100b
  have HC101 := Aside0.mk hC
  have HL102 := Aside0.mk hle
  clear hle hC
  have F100 := Aside0.mk (show Kd.S (Kd.slice 3 (Kd.int .i64)) 31 w17 w.heap.size (fun k_ => (lo204 ≤ k_ ∧ k_ < hi205) ∧ True) (.slice A97 x18.length c98) x18 from hF100b)
  clear hF100 hF100b
  replace HN := Aside0.mk (show hi205 ≤ w17.heap.size from ho.2.2)
  clear ho hg
  replace HB := HB2
  clear HB2 hb
  go_wp2_with fail
  go_at_call 21
  refine (laws_toIntS.calls k A2 c2 l2 x26 _ (Kd.C_below HR2.out (by repeat (first | exact HB.out | apply pw_below_drewN | apply below_drew1))) HL2.out H132.out).mono ?_
  rintro e w18 ⟨v106, rfl, hF107, hb⟩
  have HB2 := Aside0.mk (below_next (N := hi205) (by repeat (first | exact HB.out | apply pw_below_drewN | apply below_drew1)) (by exact HN.out) (by have := O152.out; have := O155.out; have := O158.out; have := O161.out; have := O164.out; have := O167.out; have := O170.out; have := O173.out; have := O178.out; have := O183.out; have := O188.out; have := O203.out; have := O206.out; omega) hb)
  replace F30 := Aside0.mk (show Kd.S (Kd.slice 3 (Kd.int .i64)) 31 w18 w.heap.size (fun k_ => (lo159 ≤ k_ ∧ k_ < hi160) ∧ True) (.slice A27 x33.length c28) x33 from Kd.S_below (by (with_reducible repeat (first | apply Kd.S_drewN | apply Kd.S_drew)); exact F30.out) hb)
  replace HC31 := Aside0.mk (show Kd.C (Kd.slice 3 (Kd.int .i64)) w18 A27 x33.length x33 from Kd.C_below (by (with_reducible repeat (first | apply Kd.C_drewN | apply Kd.C_drew)); exact HC31.out) hb)
  replace F57 := Aside0.mk (show Kd.S (Kd.slice 3 (Kd.int .i64)) 31 w18 w.heap.size (fun k_ => (lo171 ≤ k_ ∧ k_ < hi172) ∧ True) (.slice A54 x33.length c55) x88 from Kd.S_below (by (with_reducible repeat (first | apply Kd.S_drewN | apply Kd.S_drew)); exact F57.out) hb)
  replace HC58 := Aside0.mk (show Kd.C (Kd.slice 3 (Kd.int .i64)) w18 A54 x88.length x88 from Kd.C_below (by (with_reducible repeat (first | apply Kd.C_drewN | apply Kd.C_drew)); exact HC58.out) hb)
  replace F93 := Aside0.mk (show Kd.S (Kd.slice 3 (Kd.int .i64)) 31 w18 w.heap.size (fun k_ => (lo201 ≤ k_ ∧ k_ < hi202) ∧ True) (.slice A90 x10.length c91) x10 from Kd.S_below (by (with_reducible repeat (first | apply Kd.S_drewN | apply Kd.S_drew)); exact F93.out) hb)
  replace HC94 := Aside0.mk (show Kd.C (Kd.slice 3 (Kd.int .i64)) w18 A90 x10.length x10 from Kd.C_below (by (with_reducible repeat (first | apply Kd.C_drewN | apply Kd.C_drew)); exact HC94.out) hb)
  replace F100 := Aside0.mk (show Kd.S (Kd.slice 3 (Kd.int .i64)) 31 w18 w.heap.size (fun k_ => (lo204 ≤ k_ ∧ k_ < hi205) ∧ True) (.slice A97 x18.length c98) x18 from Kd.S_below (by (with_reducible repeat (first | apply Kd.S_drewN | apply Kd.S_drew)); exact F100.out) hb)
  replace HC101 := Aside0.mk (show Kd.C (Kd.slice 3 (Kd.int .i64)) w18 A97 x18.length x18 from Kd.C_below (by (with_reducible repeat (first | apply Kd.C_drewN | apply Kd.C_drew)); exact HC101.out) hb)
  obtain ⟨lo207, hi208, ho, hg⟩ := fresh_pts (N := hi205) hb (by exact HN.out)
  have O209 := Aside0.mk (show hi205 ≤ lo207 ∧ lo207 ≤ hi208 from ⟨ho.1, ho.2.1⟩)
  have hF107b := R_in hF107 hg (B := w.heap.size) (by have := O152.out; have := O155.out; have := O158.out; have := O161.out; have := O164.out; have := O167.out; have := O170.out; have := O173.out; have := O178.out; have := O183.out; have := O188.out; have := O203.out; have := O206.out; have := O209.out; omega)
  obtain ⟨A104, c105, rfl, hle, hC⟩ := Kd.R_reads hF107b
  have HC108 := Aside0.mk hC
  have HL109 := Aside0.mk hle
  clear hle hC
  have F107 := Aside0.mk (show Kd.R (Kd.int .i64) 3 w18 w.heap.size (fun k_ => (lo207 ≤ k_ ∧ k_ < hi208) ∧ True) (.slice A104 x26.length c105) x26 from hF107b)
  clear hF107 hF107b
  replace HN := Aside0.mk (show hi208 ≤ w18.heap.size from ho.2.2)
  clear ho hg
  replace HB := HB2
  clear HB2 hb
  go_wp2_with fail
  go_at_call 25
  refine (impl_PushWay.calls k A90 c91 x10 A97 c98 x18 A104 c105 x26 x33 x34 x35 _ (by (with_reducible repeat (first | apply Kd.C_drewN | apply Kd.C_drew)); exact HC94.out) HL95.out (by (with_reducible repeat (first | apply Kd.C_drewN | apply Kd.C_drew)); exact HC101.out) HL102.out (by (with_reducible repeat (first | apply Kd.C_drewN | apply Kd.C_drew)); exact HC108.out) HL109.out H134.out).mono ?_
  rintro e w19 ⟨v112, rfl, hF113, hb⟩
  have HB2 := Aside0.mk (below_next (N := hi208) (by repeat (first | exact HB.out | apply pw_below_drewN | apply below_drew1)) (by exact HN.out) (by have := O152.out; have := O155.out; have := O158.out; have := O161.out; have := O164.out; have := O167.out; have := O170.out; have := O173.out; have := O178.out; have := O183.out; have := O188.out; have := O203.out; have := O206.out; have := O209.out; omega) hb)
  replace F30 := Aside0.mk (show Kd.S (Kd.slice 3 (Kd.int .i64)) 31 w19 w.heap.size (fun k_ => (lo159 ≤ k_ ∧ k_ < hi160) ∧ True) (.slice A27 x33.length c28) x33 from Kd.S_below (by (with_reducible repeat (first | apply Kd.S_drewN | apply Kd.S_drew)); exact F30.out) hb)
  replace HC31 := Aside0.mk (show Kd.C (Kd.slice 3 (Kd.int .i64)) w19 A27 x33.length x33 from Kd.C_below (by (with_reducible repeat (first | apply Kd.C_drewN | apply Kd.C_drew)); exact HC31.out) hb)
  replace F57 := Aside0.mk (show Kd.S (Kd.slice 3 (Kd.int .i64)) 31 w19 w.heap.size (fun k_ => (lo171 ≤ k_ ∧ k_ < hi172) ∧ True) (.slice A54 x33.length c55) x88 from Kd.S_below (by (with_reducible repeat (first | apply Kd.S_drewN | apply Kd.S_drew)); exact F57.out) hb)
  replace HC58 := Aside0.mk (show Kd.C (Kd.slice 3 (Kd.int .i64)) w19 A54 x88.length x88 from Kd.C_below (by (with_reducible repeat (first | apply Kd.C_drewN | apply Kd.C_drew)); exact HC58.out) hb)
  replace F93 := Aside0.mk (show Kd.S (Kd.slice 3 (Kd.int .i64)) 31 w19 w.heap.size (fun k_ => (lo201 ≤ k_ ∧ k_ < hi202) ∧ True) (.slice A90 x10.length c91) x10 from Kd.S_below (by (with_reducible repeat (first | apply Kd.S_drewN | apply Kd.S_drew)); exact F93.out) hb)
  replace HC94 := Aside0.mk (show Kd.C (Kd.slice 3 (Kd.int .i64)) w19 A90 x10.length x10 from Kd.C_below (by (with_reducible repeat (first | apply Kd.C_drewN | apply Kd.C_drew)); exact HC94.out) hb)
  replace F100 := Aside0.mk (show Kd.S (Kd.slice 3 (Kd.int .i64)) 31 w19 w.heap.size (fun k_ => (lo204 ≤ k_ ∧ k_ < hi205) ∧ True) (.slice A97 x18.length c98) x18 from Kd.S_below (by (with_reducible repeat (first | apply Kd.S_drewN | apply Kd.S_drew)); exact F100.out) hb)
  replace HC101 := Aside0.mk (show Kd.C (Kd.slice 3 (Kd.int .i64)) w19 A97 x18.length x18 from Kd.C_below (by (with_reducible repeat (first | apply Kd.C_drewN | apply Kd.C_drew)); exact HC101.out) hb)
  replace F107 := Aside0.mk (show Kd.R (Kd.int .i64) 3 w19 w.heap.size (fun k_ => (lo207 ≤ k_ ∧ k_ < hi208) ∧ True) (.slice A104 x26.length c105) x26 from Kd.R_below (by (with_reducible repeat (first | apply Kd.R_drewN | apply Kd.R_drew)); exact F107.out) hb)
  replace HC108 := Aside0.mk (show Kd.C (Kd.int .i64) w19 A104 x26.length x26 from Kd.C_below (by (with_reducible repeat (first | apply Kd.C_drewN | apply Kd.C_drew)); exact HC108.out) hb)
  obtain ⟨lo210, hi211, ho, hg⟩ := fresh_pts (N := hi208) hb (by exact HN.out)
  have O212 := Aside0.mk (show hi208 ≤ lo210 ∧ lo210 ≤ hi211 from ⟨ho.1, ho.2.1⟩)
  have hF113b := S_in hF113 hg (B := w.heap.size) (by have := O152.out; have := O155.out; have := O158.out; have := O161.out; have := O164.out; have := O167.out; have := O170.out; have := O173.out; have := O178.out; have := O183.out; have := O188.out; have := O203.out; have := O206.out; have := O209.out; have := O212.out; omega)
  obtain ⟨A110, c111, rfl, hle, hC⟩ := Kd.S_reads hF113b
  have HC114 := Aside0.mk hC
  have HL115 := Aside0.mk hle
  clear hle hC
  have F113 := Aside0.mk (show Kd.S (Kd.slice 3 (Kd.int .i64)) 31 w19 w.heap.size (fun k_ => (lo210 ≤ k_ ∧ k_ < hi211) ∧ True) (.slice A110 x33.length c111) x33 from hF113b)
  clear hF113 hF113b
  replace HN := Aside0.mk (show hi211 ≤ w19.heap.size from ho.2.2)
  clear ho hg
  replace HB := HB2
  clear HB2 hb
  clear F93 HC94
  clear F100 HC101
  clear F107 HC108
  go_wp2_with fail
  go_at_call 15
  refine (laws_eqIntSS.calls k A110 c111 x33 A27 c28 x33 true _ (by (with_reducible repeat (first | apply Kd.C_drewN | apply Kd.C_drew)); exact HC114.out) HL115.out (by (with_reducible repeat (first | apply Kd.C_drewN | apply Kd.C_drew)); exact HC31.out) HL32.out H135.out).mono ?_
  rintro e w_213 ⟨rfl, ⟨nd214, rfl⟩⟩
  clear F30 HC31
  clear F113 HC114
  go_wp2_with fail
  go_at_call 28
  refine calls_of_args (args' := #[.slice A54 x88.length c55, .int .i64 1]) (by rw [HQ197.out]) ?_
  refine (laws_heldIntSS.calls k A54 c55 x88 1 t87 _ (by (with_reducible repeat (first | apply Kd.C_drewN | apply Kd.C_drew)); exact HC58.out) HL59.out H144.out).mono ?_
  rintro e w_215 ⟨rfl, ⟨nd216, rfl⟩⟩
  clear F57 HC58
  have d217 : decide (t87 < 0) = false := decide_eq_false (by have := H145.out; omega)
  go_wp2_with fail
  go_ret
  exact ⟨rfl, (by repeat (first | exact HB.out | apply pw_below_drewN | apply below_drew1))⟩

/-- THE ONE PURE STATEMENT of laws_FnExactPushWay. -/
def laws_FnExactPushWay.Pure : Prop := ∀ (l0 : List (List Int)) (l1 : List (List Int)) (l2 : List Int), (l0.length ≤ maxLen ∧ ∀ x ∈ l0, (x.length ≤ maxLen ∧ ∀ y_ ∈ x, (Lit.int .i64 y_).wf = true)) → (l1.length ≤ maxLen ∧ ∀ x ∈ l1, (x.length ≤ maxLen ∧ ∀ y_ ∈ x, (Lit.int .i64 y_).wf = true)) → (l2.length ≤ maxLen ∧ ∀ x ∈ l2, (Lit.int .i64 x).wf = true) → ∃ k, laws_FnExactPushWay.f k l0 l1 l2 = some true
theorem laws_FnExactPushWay.walk (P : laws_FnExactPushWay.Pure) (A0 : Option Addr) (c0 : Nat) (l0 : List (List Int)) (A1 : Option Addr) (c1 : Nat) (l1 : List (List Int)) (A2 : Option Addr) (c2 : Nat) (l2 : List Int) (w : World) (hr0 : Kd.C (Kd.slice 3 (Kd.int .i64)) w A0 l0.length l0) (hc0 : l0.length ≤ c0) (hw0 : (l0.length ≤ maxLen ∧ ∀ x ∈ l0, (x.length ≤ maxLen ∧ ∀ y_ ∈ x, (Lit.int .i64 y_).wf = true))) (hr1 : Kd.C (Kd.slice 3 (Kd.int .i64)) w A1 l1.length l1) (hc1 : l1.length ≤ c1) (hw1 : (l1.length ≤ maxLen ∧ ∀ x ∈ l1, (x.length ≤ maxLen ∧ ∀ y_ ∈ x, (Lit.int .i64 y_).wf = true))) (hr2 : Kd.C (Kd.int .i64) w A2 l2.length l2) (hc2 : l2.length ≤ c2) (hw2 : (l2.length ≤ maxLen ∧ ∀ x ∈ l2, (Lit.int .i64 x).wf = true)) :
    Calls Try.prog 7 #[.slice A0 l0.length c0, .slice A1 l1.length c1, .slice A2 l2.length c2] w fun e w' => e = .returned (.bool true) ∧ Below w.heap.size w w' := by
  obtain ⟨k, h⟩ := P l0 l1 l2 hw0 hw1 hw2
  refine (laws_FnExactPushWay.calls k _ _ l0 _ _ l1 _ _ l2 true w hr0 hc0 hr1 hc1 hr2 hc2 h).mono ?_
  rintro e w' ⟨rfl, hd⟩
  exact ⟨rfl, hd⟩

end Go.Proofs.Ytdbepjnapjjlcaa.GLPushWay
