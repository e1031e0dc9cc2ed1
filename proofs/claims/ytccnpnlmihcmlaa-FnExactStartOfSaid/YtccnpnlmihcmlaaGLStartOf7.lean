-- Written by a program of this session (gprint.py), over the kit's print: not trusted: Lean checks it.
import Derived.Test.YtccnpnlmihcmlaaGLStartOf0
import Derived.Test.YtccnpnlmihcmlaaGLStartOf6
namespace Go.Proofs.Ytccnpnlmihcmlaa.GLStartOf
open Go.RowKit Go.Proofs.YtccnpnlmihcmlaaW.PrintWords Go.Proofs.YtccnpnlmihcmlaaW.PrintLast Go.Proofs.YtccnpnlmihcmlaaW.PrintMore Go.Proofs.YtccnpnlmihcmlaaW.PrintOwn
attribute [local go_sem] max2_int min2_int max_two min_two max_three min_three max_four min_four   -- for this text's walks alone
set_option linter.unusedVariables false
set_option linter.unusedSimpArgs false

/-! ### slices_Equal_int_int: function 72 -/
def slices_Equal_int_int.l0 : Nat → List Int → List Int → Int → Int → Option (Bool)
 | 0, _, _, _, _ => none
 | k + 1, x0, x1, x12, x13 => if x13 < x12 then (if 0 ≤ x13 then (if x13 < (x0.length : Int) then (if x13 < (x1.length : Int) then (if (rd x0 x13) = (rd x1 x13) then (slices_Equal_int_int.l0 k x0 x1 x12 (wrap64 (x13 + 1))) else (some false)) else (none)) else (none)) else (none)) else (some true)
def slices_Equal_int_int.f (k : Nat) (l0 : List Int) (l1 : List Int) : Option (Bool) := if (l0.length : Int) = (l1.length : Int) then (slices_Equal_int_int.l0 k l0 l1 (l0.length : Int) 0) else (some false)
theorem slices_Equal_int_int.mono_l : ∀ k, (∀ y0 y1 y2 y3, LeO (slices_Equal_int_int.l0 k y0 y1 y2 y3) (slices_Equal_int_int.l0 (k + 1) y0 y1 y2 y3))
 | 0 => fun _ _ _ _ r h => by simp [slices_Equal_int_int.l0] at h
 | k + 1 => by
  have ih0 := slices_Equal_int_int.mono_l k
  ·intro y0 y1 y2 y3
   unfold slices_Equal_int_int.l0
   repeat' first
   | (with_reducible exact ih0 _ _ _ _)
   | (with_reducible exact LeO.refl _)
   | (with_reducible exact LeO.none _)
   | (with_reducible refine LeO.ite ?_ ?_)
   | (with_reducible refine LeO.bind ?_ (fun _ => ?_))
   | exact ih0 _ _ _ _
   | exact LeO.none _
   | refine LeO.ite ?_ ?_
   | refine LeO.bind ?_ (fun _ => ?_)
theorem slices_Equal_int_int.mono : ∀ a0 a1 k, LeO (slices_Equal_int_int.f k a0 a1) (slices_Equal_int_int.f (k + 1) a0 a1) := by
 intro a0 a1 k
 have ih0 := slices_Equal_int_int.mono_l k
 unfold slices_Equal_int_int.f
 repeat' first
   | (with_reducible exact ih0 _ _ _ _)
   | (with_reducible exact LeO.refl _)
   | (with_reducible exact LeO.none _)
   | (with_reducible refine LeO.ite ?_ ?_)
   | (with_reducible refine LeO.bind ?_ (fun _ => ?_))
   | exact ih0 _ _ _ _
   | exact LeO.none _
   | refine LeO.ite ?_ ?_
   | refine LeO.bind ?_ (fun _ => ?_)
set_option maxHeartbeats 8000000 in
set_option maxRecDepth 100000 in
theorem slices_Equal_int_int.calls (k : Nat) (A0 : Option Addr) (c0 : Nat) (l0 : List Int) (A1 : Option Addr) (c1 : Nat) (l1 : List Int) (r : Bool) (w : World) (hr0 : Kd.C (Kd.int .i64) w A0 l0.length l0) (hc0 : l0.length ≤ c0) (hr1 : Kd.C (Kd.int .i64) w A1 l1.length l1) (hc1 : l1.length ≤ c1) (h : slices_Equal_int_int.f k l0 l1 = some r) :
  Calls Try.prog 72 #[.slice A0 l0.length c0, .slice A1 l1.length c1] w fun e w' => e = .returned (.bool r) ∧ Drawn0 w w' := by
 have HR0 := Aside0.mk hr0
 have HC0 := Aside0.mk hc0
 clear hr0 hc0
 have HR1 := Aside0.mk hr1
 have HC1 := Aside0.mk hc1
 clear hr1 hc1
 have H : (if (l0.length : Int) = (l1.length : Int) then (slices_Equal_int_int.l0 k l0 l1 (l0.length : Int) 0) else (some false)) = some r := h
 clear h
 by_cases c3 : (l0.length : Int) = (l1.length : Int)
 ·rw [if_pos c3] at H
  have c3b0 : ((l0.length : Int) == (l1.length : Int)) = true := beq_iff_eq.mpr c3
  have c3b1 : ((l0.length : Int) != (l1.length : Int)) = false := bne_eq_false_iff_eq.mpr c3
  have c3b2 : (l0.length == l1.length) = true := by first | simpa using c3 | (simp at c3 ⊢; omega)
  clear c3
  have H' := Aside0.mk H
  clear H
  go_enter Try.func72, Try.ntmps72
  go_wp2
  repeat (go_quiet (fail); try go_wp2)
  go_loopg [13] k (fun kq v13 w' => ∃ (x13_1 : Int), v13 = .int .i64 x13_1 ∧ Aside0 (slices_Equal_int_int.l0 kq l0 l1 (l0.length : Int) x13_1 = some r) ∧ Aside0 (kq ≤ k) ∧ Drawn0 w w')
  case atStart => exact ⟨(0), (by first | rfl | (simp; done) | (simp [*]; done)), H', ⟨Nat.le_refl _⟩, by repeat (first | exact Drawn0.refl _ | apply Drawn0.step)⟩
  case round =>
   clear H'
   try clear c1
   try clear p2
   try clear c3
   try clear c3b0
   try clear c3b1
   try clear c3b2
   obtain ⟨x13_1, rfl, HA, HK1, ⟨m1, rfl⟩⟩ := hrel
   cases gk with
   | zero => exact absurd HA.out (by simp [slices_Equal_int_int.l0])
   | succ k1 =>
    have H := HA.out
    clear HA
    simp only [slices_Equal_int_int.l0] at H
    by_cases c4 : x13_1 < (l0.length : Int)
    ·rw [if_pos c4] at H
     have c4b0 : decide (x13_1 < (l0.length : Int)) = true := decide_eq_true c4
     clear c4
     by_cases c5 : 0 ≤ x13_1
     ·rw [if_pos c5] at H
      have c5b0 : decide (0 ≤ x13_1) = true := decide_eq_true c5
      clear c5
      by_cases c6 : x13_1 < (l0.length : Int)
      ·rw [if_pos c6] at H
       have c6b0 : decide (x13_1 < (l0.length : Int)) = true := decide_eq_true c6
       clear c6
       by_cases c7 : x13_1 < (l1.length : Int)
       ·rw [if_pos c7] at H
        have c7b0 : decide (x13_1 < (l1.length : Int)) = true := decide_eq_true c7
        clear c7
        by_cases c8 : (rd l0 x13_1) = (rd l1 x13_1)
        ·rw [if_pos c8] at H
         have c8b0 : ((rd l0 x13_1) == (rd l1 x13_1)) = true := beq_iff_eq.mpr c8
         have c8b1 : ((rd l0 x13_1) != (rd l1 x13_1)) = false := bne_eq_false_iff_eq.mpr c8
         clear c8
         have H' := Aside0.mk H
         clear H
         have p240 : 0 ≤ (x13_1 : Int) := of_decide_eq_true (by first | (with_reducible assumption) | assumption)
         have q240 : x13_1 < (l0.length : Int) := of_decide_eq_true (by first | (with_reducible assumption) | assumption)
         obtain ⟨ad240, e240, hx240_0⟩ := Kd.at_int HR0.out x13_1 p240 q240
         cases e240
         replace p240 := eq_true p240
         replace q240 := eq_true q240
         have p241 : 0 ≤ (x13_1 : Int) := of_decide_eq_true (by first | (with_reducible assumption) | assumption)
         have q241 : x13_1 < (l1.length : Int) := of_decide_eq_true (by first | (with_reducible assumption) | assumption)
         obtain ⟨ad241, e241, hx241_0⟩ := Kd.at_int HR1.out x13_1 p241 q241
         cases e241
         replace p241 := eq_true p241
         replace q241 := eq_true q241
         go_wp2
         repeat (go_quiet (fail); try go_wp2)
         go_roundg k1
         case measure => have := HK1.out; omega
         case rel => exact ⟨(wrap64 (x13_1 + 1)), (by first | rfl | (simp; done) | (simp [*]; done)), H', ⟨by have := HK1.out; omega⟩, by repeat (first | exact Drawn0.refl _ | apply Drawn0.step)⟩
        ·rw [if_neg c8] at H
         have c8b0 : ((rd l0 x13_1) == (rd l1 x13_1)) = false := beq_eq_false_iff_ne.mpr c8
         have c8b1 : ((rd l0 x13_1) != (rd l1 x13_1)) = true := bne_iff_ne.mpr c8
         obtain rfl := Option.some.inj H
         have p240 : 0 ≤ (x13_1 : Int) := of_decide_eq_true (by first | (with_reducible assumption) | assumption)
         have q240 : x13_1 < (l0.length : Int) := of_decide_eq_true (by first | (with_reducible assumption) | assumption)
         obtain ⟨ad240, e240, hx240_0⟩ := Kd.at_int HR0.out x13_1 p240 q240
         cases e240
         replace p240 := eq_true p240
         replace q240 := eq_true q240
         have p241 : 0 ≤ (x13_1 : Int) := of_decide_eq_true (by first | (with_reducible assumption) | assumption)
         have q241 : x13_1 < (l1.length : Int) := of_decide_eq_true (by first | (with_reducible assumption) | assumption)
         obtain ⟨ad241, e241, hx241_0⟩ := Kd.at_int HR1.out x13_1 p241 q241
         cases e241
         replace p241 := eq_true p241
         replace q241 := eq_true q241
         go_wp2
         repeat (go_quiet (fail); try go_wp2)
         go_ret
         exact ⟨by first | rfl | (simp; done) | (simp [*]; done), by repeat (first | exact Drawn0.refl _ | apply Drawn0.step)⟩
       ·rw [if_neg c7] at H
        exact absurd H (by simp)
      ·rw [if_neg c6] at H
       exact absurd H (by simp)
     ·rw [if_neg c5] at H
      exact absurd H (by simp)
    ·rw [if_neg c4] at H
     have c4b0 : decide (x13_1 < (l0.length : Int)) = false := decide_eq_false c4
     clear c4
     obtain rfl := Option.some.inj H
     go_wp2
     repeat (go_quiet (fail); try go_wp2)
     go_ret
     exact ⟨by first | rfl | (simp; done) | (simp [*]; done), by repeat (first | exact Drawn0.refl _ | apply Drawn0.step)⟩
 ·rw [if_neg c3] at H
  have c3b0 : ((l0.length : Int) == (l1.length : Int)) = false := beq_eq_false_iff_ne.mpr c3
  have c3b1 : ((l0.length : Int) != (l1.length : Int)) = true := bne_iff_ne.mpr c3
  have c3b2 : (l0.length == l1.length) = false := by first | simpa using c3 | (simp at c3 ⊢; omega)
  obtain rfl := Option.some.inj H
  go_enter Try.func72, Try.ntmps72
  go_wp2
  repeat (go_quiet (fail); try go_wp2)
  go_ret
  exact ⟨by first | rfl | (simp; done) | (simp [*]; done), by repeat (first | exact Drawn0.refl _ | apply Drawn0.step)⟩

/-! ### slices_Values_int_int: function 86 -/
theorem slices_Values_int_int.calls (A0 : Option Addr) (c0 len : Nat) (w : World) :
  Calls Try.prog 86 #[.slice A0 len c0] w fun e w' => e = .returned (.func (.func 90) #[] #[.pointer (some ⟨w.heap.size, 0, none⟩)]) ∧ w' = w.alloc (.cells #[.slice A0 len c0] 22) := by
 go_enter Try.func86, Try.ntmps86
 go_wp2
 go_ret
 exact ⟨rfl, rfl⟩
open Go.Maps Go.Sort Go.Shelf in
set_option maxRecDepth 100000 in
set_option maxHeartbeats 4000000 in
theorem slices_Values_int_int.gives (n : Nat) (hn : 1 ≤ n) (Bs : Nat) (A0 : Option Addr) (c0 : Nat) (l0 : List Int) (w : World) (hBs : Bs < w.heap.size) (hc : w.cell? ⟨Bs, 0, none⟩ = some (.slice A0 l0.length c0)) (hr : Kd.C (Kd.int .i64) w A0 l0.length l0) :
  SeqGivesB Fence.wide n Try.prog 90 #[.pointer (some ⟨Bs, 0, none⟩)] encZ (fun ss => ss = l0) l0.length w := fun l J W hW hJ hbel hY h0 => by
 have hc' := (hW.cell (p := ⟨Bs, 0, none⟩) hBs).trans hc
 have HR := Aside0.mk hr
 have HBE := Aside0.mk hbel
 clear hr hbel hc hW
 refine callsIn_of_wp Try.func90 rfl trivial ?_ rfl
 simp only [Try.ntmps90, List.size_toArray, List.length_cons, List.length_nil, Nat.reduceAdd, Nat.reduceSub, Array.replicate_succ, Array.replicate_zero, List.push_toArray, List.append_toArray, List.nil_append, List.cons_append]
 gi_wp2
 gi_loopw [7] (fun v wr => ∃ x : Int, v = .int .i64 x ∧ Aside0 (0 ≤ x ∧ x ≤ (l0.length : Int)) ∧ J (l0.take x.toNat) wr) (fun v _ => l0.length - (intOf v).toNat)
 case atStart => exact ⟨0, rfl, ⟨by omega, by omega⟩, by simpa using h0⟩
 case round =>
  obtain ⟨x, rfl, HI, hJs⟩ := hrel
  have hw : x < (l0.length : Int) → wrap64 (x + 1) = x + 1 := fun h => wrap_up HI.out.1 h (Kd.C_max HR.out)
  by_cases hlt : x < (l0.length : Int)
  ·obtain ⟨ad, e, hx⟩ := Kd.at_int HR.out x HI.out.1 hlt
   cases e
   have hcx := ((HBE.out _ _ hJs).cell (World.block_lt_of_cell? w _ hx)).trans hx
   clear hx
   have p0 := eq_true HI.out.1
   have q0 := eq_true hlt
   have p1 : decide (0 ≤ x) = true := decide_eq_true HI.out.1
   have q1 : decide (x < (l0.length : Int)) = true := decide_eq_true hlt
   have HL := Aside0.mk hlt
   have HW := Aside0.mk (hw hlt)
   obtain ⟨fn, tmps, assign, body, hy, hR⟩ := hY _ (rd l0 x) wr hJs (by have := HI.out; rw [List.length_take]; omega)
   clear hw hlt
   dsimp only [encZ] at hy
   gi_wp2
   refine hR.mono ?_
   rintro e W3 ⟨rfl, hJ3, hk3⟩
   gi_wp2
   go_roundw
   case rel =>
    refine ⟨x + 1, by rw [HW.out], ⟨by have := HI.out; omega, by have := HL.out; omega⟩, ?_⟩
    have h1 := HI.out
    have h2 := HL.out
    rw [show (x + 1).toNat = x.toNat + 1 by omega, take_up (by omega)]
    exact hJ3
   case measure => rw [HW.out]; simp [intOf]; have h1 := HI.out; have h2 := HL.out; omega
  ·have q1 : decide (x < (l0.length : Int)) = false := decide_eq_false hlt
   have HL := Aside0.mk hlt
   clear hw hlt
   gi_wp2
   go_end0
   have h1 := HI.out
   have h2 := HL.out
   rw [List.take_of_length_le (by omega)] at hJs
   exact ⟨⟨_, rfl⟩, hJs⟩

/-! ### slices_Sorted_int: function 85 -/
open Go.Shelf in
def slices_Sorted_int.layS_ren : Go.Shelf.Ren := ⟨fun | 6 => 85 | 8 => 88 | 9 => 89 | 11 => 91 | 13 => 93 | 12 => 92 | 23 => 103 | 24 => 104 | 14 => 94 | 15 => 95 | 16 => 96 | 17 => 97 | 18 => 98 | 19 => 99 | 20 => 100 | 21 => 101 | 22 => 102 | 25 => 105 | 26 => 106 | 27 => 107 | 28 => 108 | 29 => 109 | 30 => 110 | 31 => 111 | n => n, fun | 26 => 3 | 28 => 87 | 24 => 22 | 0 => 0 | 3 => 3 | 37 => 94 | 48 => 103 | 50 => 105 | 4 => 4 | 40 => 97 | 39 => 96 | 45 => 47 | 5 => 5 | 9 => 9 | 51 => 106 | 55 => 110 | 57 => 112 | 58 => 76 | 33 => 82 | n => n, fun | n => n⟩
theorem slices_Sorted_int.layS : Go.Proofs.SlLaysZI.n6 Try.prog slices_Sorted_int.layS_ren := {
 mixed := by kernel_rfl
 f6 := ⟨Try.f85.name, by decide, Try.func85.trans (congrArg some (by kernel_rfl))⟩
 f8 := ⟨Try.f88.name, by decide, Try.func88.trans (congrArg some (by kernel_rfl))⟩
 f11 := ⟨Try.f91.name, by decide, Try.func91.trans (congrArg some (by kernel_rfl))⟩
 t0 := Try.underlying0
 a0 := Try.isAgg0
 z0 := Try.sizeOf0
 v0 := Try.zeroValue0
 t24 := Try.underlying22
 a24 := Try.isAgg22
 z24 := Try.sizeOf22
 v24 := Try.zeroValue22
 t26 := Try.underlying3
 a26 := Try.isAgg3
 z26 := Try.sizeOf3
 v26 := Try.zeroValue3
 t28 := Try.underlying87
 a28 := Try.isAgg87
 z28 := Try.sizeOf87
 v28 := Try.zeroValue87
 i26 := by kernel_rfl }

open Go.Shelf in
def slices_Sorted_int.layM_ren : Go.Shelf.Ren := ⟨fun | 5 => 89 | 8 => 93 | 7 => 92 | 19 => 103 | 20 => 104 | 10 => 94 | 11 => 95 | 12 => 96 | 13 => 97 | 14 => 98 | 15 => 99 | 16 => 100 | 17 => 101 | 18 => 102 | 30 => 105 | 31 => 106 | 32 => 107 | 33 => 108 | 34 => 109 | 35 => 110 | 40 => 111 | n => n, fun | 23 => 22 | 25 => 3 | 3 => 3 | 32 => 94 | 22 => 22 | 0 => 0 | 44 => 103 | 46 => 105 | 4 => 4 | 36 => 97 | 35 => 96 | 41 => 47 | 5 => 5 | 9 => 9 | 53 => 106 | 57 => 110 | 63 => 112 | 64 => 76 | n => n, fun | n => n⟩
theorem slices_Sorted_int.layM : Go.Proofs.SlLaysM.n5 Try.prog slices_Sorted_int.layM_ren := {
 mixed := by kernel_rfl
 f5 := ⟨Try.f89.name, by decide, Try.func89.trans (congrArg some (by kernel_rfl))⟩
 f7 := ⟨Try.f92.name, by decide, Try.func92.trans (congrArg some (by kernel_rfl))⟩
 f8 := Try.func93.trans (congrArg some (by kernel_rfl))
 f10 := ⟨Try.f94.name, by decide, Try.func94.trans (congrArg some (by kernel_rfl))⟩
 f11 := ⟨Try.f95.name, by decide, Try.func95.trans (congrArg some (by kernel_rfl))⟩
 f12 := ⟨Try.f96.name, by decide, Try.func96.trans (congrArg some (by kernel_rfl))⟩
 f13 := ⟨Try.f97.name, by decide, Try.func97.trans (congrArg some (by kernel_rfl))⟩
 f14 := ⟨Try.f98.name, by decide, Try.func98.trans (congrArg some (by kernel_rfl))⟩
 f15 := ⟨Try.f99.name, by decide, Try.func99.trans (congrArg some (by kernel_rfl))⟩
 f16 := ⟨Try.f100.name, by decide, Try.func100.trans (congrArg some (by kernel_rfl))⟩
 f17 := ⟨Try.f101.name, by decide, Try.func101.trans (congrArg some (by kernel_rfl))⟩
 f18 := ⟨Try.f102.name, by decide, Try.func102.trans (congrArg some (by kernel_rfl))⟩
 f19 := Try.func103.trans (congrArg some (by kernel_rfl))
 f20 := Try.func104.trans (congrArg some (by kernel_rfl))
 f30 := ⟨Try.f105.name, by decide, Try.func105.trans (congrArg some (by kernel_rfl))⟩
 f31 := Try.func106.trans (congrArg some (by kernel_rfl))
 f32 := Try.func107.trans (congrArg some (by kernel_rfl))
 f33 := ⟨Try.f108.name, by decide, Try.func108.trans (congrArg some (by kernel_rfl))⟩
 f34 := ⟨Try.f109.name, by decide, Try.func109.trans (congrArg some (by kernel_rfl))⟩
 f35 := ⟨Try.f110.name, by decide, Try.func110.trans (congrArg some (by kernel_rfl))⟩
 f40 := ⟨Try.f111.name, by decide, Try.func111.trans (congrArg some (by kernel_rfl))⟩
 t0 := Try.underlying0
 a0 := Try.isAgg0
 z0 := Try.sizeOf0
 v0 := Try.zeroValue0
 t3 := Try.underlying3
 a3 := Try.isAgg3
 z3 := Try.sizeOf3
 v3 := Try.zeroValue3
 t4 := Try.underlying4
 a4 := Try.isAgg4
 z4 := Try.sizeOf4
 v4 := Try.zeroValue4
 t5 := Try.underlying5
 a5 := Try.isAgg5
 z5 := Try.sizeOf5
 v5 := Try.zeroValue5
 t9 := Try.underlying9
 a9 := Try.isAgg9
 z9 := Try.sizeOf9
 v9 := Try.zeroValue9
 t22 := Try.underlying22
 a22 := Try.isAgg22
 z22 := Try.sizeOf22
 v22 := Try.zeroValue22
 t23 := Try.underlying22
 a23 := Try.isAgg22
 z23 := Try.sizeOf22
 v23 := Try.zeroValue22
 t25 := Try.underlying3
 a25 := Try.isAgg3
 z25 := Try.sizeOf3
 v25 := Try.zeroValue3
 t32 := Try.underlying94
 a32 := Try.isAgg94
 z32 := Try.sizeOf94
 v32 := Try.zeroValue94
 t35 := Try.underlying96
 a35 := Try.isAgg96
 z35 := Try.sizeOf96
 v35 := Try.zeroValue96
 t36 := Try.underlying97
 a36 := Try.isAgg97
 z36 := Try.sizeOf97
 v36 := Try.zeroValue97
 t41 := Try.underlying47
 a41 := Try.isAgg47
 z41 := Try.sizeOf47
 v41 := Try.zeroValue47
 t44 := Try.underlying103
 a44 := Try.isAgg103
 z44 := Try.sizeOf103
 v44 := Try.zeroValue103
 t46 := Try.underlying105
 a46 := Try.isAgg105
 z46 := Try.sizeOf105
 v46 := Try.zeroValue105
 t53 := Try.underlying106
 a53 := Try.isAgg106
 z53 := Try.sizeOf106
 v53 := Try.zeroValue106
 t57 := Try.underlying110
 a57 := Try.isAgg110
 z57 := Try.sizeOf110
 v57 := Try.zeroValue110
 t63 := Try.underlying112
 a63 := Try.isAgg112
 z63 := Try.sizeOf112
 v63 := Try.zeroValue112
 t64 := Try.underlying76
 a64 := Try.isAgg76
 z64 := Try.sizeOf76
 v64 := Try.zeroValue76 }

open Go.Maps Go.Sort Go.Shelf in
theorem slices_Sorted_int.sorts (m : Nat) : AnyZI.SortsIn Try.prog slices_Sorted_int.layS_ren Fence.wide m :=
 ⟨fun blk off cap ss W hH hblk hsz => callsIn_wide.2 (AnyM.slices_Sort_int slices_Sorted_int.layM blk off cap ss W hH hblk hsz),
  fun p cap W => callsIn_wide.2 (AnyM.slices_Sort_int_none slices_Sorted_int.layM p cap W)⟩
open Go.Maps Go.Sort Go.Shelf in
/-- slices.Sorted of what slices.Values has handed back. -/
theorem slices_Sorted_int.sv (Bs : Nat) (A0 : Option Addr) (c0 : Nat) (l0 : List Int) (hl : l0.length ≤ 17592186044416) (w : World) (hBs : Bs < w.heap.size) (hc : w.cell? ⟨Bs, 0, none⟩ = some (.slice A0 l0.length c0)) (hr : Kd.C (Kd.int .i64) w A0 l0.length l0) :
  Calls Try.prog 85 #[.func (.func 90) #[] #[.pointer (some ⟨Bs, 0, none⟩)]] w fun e w' => ∃ v0_ : Value, e = .returned v0_ ∧ Kd.R (Kd.int .i64) 3 w' w.heap.size (fun _ => True) v0_ (sortI l0) ∧ Below w.heap.size w w' := by
 have hg := slices_Values_int_int.gives 2 (by decide) Bs A0 c0 l0 w hBs hc hr
 have cS := sortedB slices_Sorted_int.layS Fence.wide 5 trivial trivial trivial trivial rfl (by decide) (slices_Sorted_int.sorts _) (enters_of Try.func89 (by kernel_rfl) rfl) 90 #[.pointer (some ⟨Bs, 0, none⟩)] trivial (enters_of Try.func90 (by kernel_rfl) rfl) l0 (by unfold maxLen; omega) (by omega) w hg
 change CallsIn _ _ Try.prog 85 _ _ _ at cS
 refine (callsIn_wide.1 cS).mono ?_
 rintro e w' ⟨v, ss, rfl, rfl, hrow, _, hb⟩
 exact ⟨v, rfl, R_sortI hrow, hb⟩

/-! ### impl_areAlike: function 69 -/
def impl_areAlike.f (k : Nat) (l0 : List Int) (l1 : List Int) : Option (Bool) := (impl_GoodSpots.f k l0).bind fun t => if t = true then (impl_GoodSpots.f k l1).bind fun u => (if u = true then (if l0.length ≤ 17592186044416 ∧ l1.length ≤ 17592186044416 then slices_Equal_int_int.f k (sortI l0) (sortI l1) else none) else some false) else some false
theorem impl_areAlike.mono : ∀ a0 a1 k, LeO (impl_areAlike.f k a0 a1) (impl_areAlike.f (k + 1) a0 a1) := fun a0 a1 k =>
 LeO.bind (impl_GoodSpots.mono a0 k) (fun _ => LeO.ite (LeO.bind (impl_GoodSpots.mono a1 k) (fun _ => LeO.ite (LeO.ite (slices_Equal_int_int.mono _ _ k) (LeO.refl _)) (LeO.refl _))) (LeO.refl _))
set_option maxHeartbeats 8000000 in
theorem impl_areAlike.calls (k : Nat) (A0 : Option Addr) (c0 : Nat) (l0 : List Int) (A1 : Option Addr) (c1 : Nat) (l1 : List Int) (r : Bool) (w : World) (hr0 : Kd.C (Kd.int .i64) w A0 l0.length l0) (hc0 : l0.length ≤ c0) (hr1 : Kd.C (Kd.int .i64) w A1 l1.length l1) (hc1 : l1.length ≤ c1) (h : impl_areAlike.f k l0 l1 = some r) :
  Calls Try.prog 69 #[.slice A0 l0.length c0, .slice A1 l1.length c1] w fun e w' => e = .returned (.bool r) ∧ Below w.heap.size w w' := by
 unfold impl_areAlike.f at h
 cases hg0 : impl_GoodSpots.f k l0 with
 | none => rw [hg0] at h; cases h
 | some b0 =>
 rw [hg0, Option.bind_some] at h
 have HG0 := Aside0.mk (impl_GoodSpots.calls k A0 c0 l0 b0 w hr0 hc0 hg0)
 clear hg0
 cases b0 with
 | false =>
  obtain rfl := Option.some.inj h
  clear h hr0 hc0 hr1 hc1
  go_enter Try.func69, Try.ntmps69
  go_wp2_with (first | (go_at_call 17; refine HG0.out.mono ?_; clear HG0; rintro e W1 ⟨rfl, hb1⟩))
  go_ret
  exact ⟨by first | rfl | simp, hb1⟩
 | true =>
 rw [if_pos rfl] at h
 cases hg1 : impl_GoodSpots.f k l1 with
 | none => rw [hg1] at h; cases h
 | some b1 =>
 rw [hg1, Option.bind_some] at h
 have HG1 := Aside0.mk (fun W (hb : Below w.heap.size w W) => impl_GoodSpots.calls k A1 c1 l1 b1 W (Kd.C_below hr1 hb) hc1 hg1)
 clear hg1
 cases b1 with
 | false =>
  obtain rfl := Option.some.inj h
  clear h hr0 hc0 hr1 hc1
  go_enter Try.func69, Try.ntmps69
  go_wp2_with (first | (go_at_call 17; refine HG0.out.mono ?_; clear HG0; rintro e W1 ⟨rfl, hb1⟩) | (go_at_call 17; refine (HG1.out _ hb1).mono ?_; clear HG1; rintro e W2 ⟨rfl, hb2⟩))
  go_ret
  exact ⟨by first | rfl | simp, hb1.trans (hb2.mono hb1.size)⟩
 | true =>
 rw [if_pos rfl] at h
 split at h
 case isFalse => cases h
 case isTrue hl =>
 have HS0 := Aside0.mk (fun W (hb : Below w.heap.size w W) => slices_Sorted_int.sv W.heap.size A0 c0 l0 hl.1 (W.alloc (.cells #[.slice A0 l0.length c0] 22)) (by simp) (by simp) (Kd.C_alloc (Kd.C_below hr0 hb) _))
 have HS1 := Aside0.mk (fun W (hb : Below w.heap.size w W) => slices_Sorted_int.sv W.heap.size A1 c1 l1 hl.2 (W.alloc (.cells #[.slice A1 l1.length c1] 22)) (by simp) (by simp) (Kd.C_alloc (Kd.C_below hr1 hb) _))
 have HEQ := Aside0.mk h
 clear hr0 hc0 hr1 hc1 hl h
 generalize sortI l0 = s0 at HS0 HEQ
 generalize sortI l1 = s1 at HS1 HEQ
 go_enter Try.func69, Try.ntmps69
 go_wp2_with (first
  | (go_at_call 17; refine HG0.out.mono ?_; clear HG0; rintro e W1 ⟨rfl, hb1⟩)
  | (go_at_call 17; refine (HG1.out _ hb1).mono ?_; clear HG1; rintro e W2 ⟨rfl, hb2⟩; have hb2' := Aside0.mk (hb1.trans (hb2.mono hb1.size)); clear hb1 hb2)
  | (go_at_call 86; refine (slices_Values_int_int.calls _ _ _ _).mono ?_; rintro e w' ⟨rfl, rfl⟩)
  | (go_at_call 85; refine (HS0.out _ hb2'.out).mono ?_; clear HS0; rintro e W3 ⟨v3, rfl, hR3, hb3⟩; obtain ⟨A3, c3, rfl, hc3, hC3⟩ := Kd.R_reads hR3; have HC3 := Aside0.mk hC3; have HL3 := Aside0.mk hc3; have hb3' := Aside0.mk ((hb2'.out.alloc hb2'.out.size _).trans (hb3.mono (by have := hb2'.out.size; simp; omega))); clear hR3 hb3 hC3 hc3)
  | (go_at_call 85; refine (HS1.out _ hb3'.out).mono ?_; clear HS1; rintro e W4 ⟨v4, rfl, hR4, hb4⟩; obtain ⟨A4, c4, rfl, hc4, hC4⟩ := Kd.R_reads hR4; have HC4 := Aside0.mk hC4; have HL4 := Aside0.mk hc4; have HE := Aside0.mk (slices_Equal_int_int.calls k A3 c3 s0 A4 c4 s1 r W4 (Kd.C_below HC3.out (((Below.refl _ _).alloc (Nat.le_refl _) _).trans (hb4.mono (by simp)))) HL3.out hC4 hc4 HEQ.out); have hb4' := Aside0.mk ((hb3'.out.alloc hb3'.out.size _).trans (hb4.mono (by have := hb3'.out.size; simp; omega))); clear hR4 hb4 hC4 hc4)
  | (go_at_call 72; refine HE.out.mono ?_; clear HE; rintro e W5 ⟨rfl, nd, rfl⟩))
 go_ret
 exact ⟨by first | rfl | simp, pw_below_drewN hb4'.out _⟩

/-! ### impl_Move: function 63 -/
theorem impl_Move.calls (A0 : Option Addr) (c0 len : Nat) (w : World) :
  Calls Try.prog 63 #[.slice A0 len c0] w fun e w' => e = .returned (.func (.func 83) #[] #[.pointer (some ⟨w.heap.size, 0, none⟩)]) ∧ w' = w.alloc (.cells #[.slice A0 len c0] 28) := by
 go_enter Try.func63, Try.ntmps63
 go_wp2
 go_ret
 exact ⟨rfl, rfl⟩
/-- What a round keeps: what lay below n0, and the box of the slice. -/
def impl_Move.Kp (n0 Bs : Nat) (X Y : World) : Prop := Below n0 X Y ∧ Y.heap[Bs]? = X.heap[Bs]?
theorem impl_Move.Kp_t {n0 Bs : Nat} {X Y Z : World} (h : impl_Move.Kp n0 Bs X Y) (k : impl_Move.Kp n0 Bs Y Z) : impl_Move.Kp n0 Bs X Z := ⟨h.1.trans k.1, k.2.trans h.2⟩
theorem impl_Move.Kp_b {n0 Bs N : Nat} (hn : n0 ≤ N) (hB : Bs < N) (W : World) (l : Nat) (o o' : Obj) (hl : N ≤ l) (h : W.heap[l]? = some o) (_ : o.isCells = false) (_ : o.isWalk = false) : impl_Move.Kp n0 Bs W (W.putObj l o') :=
 ⟨(Below.refl n0 W).grown (grownBy_putObj' W l o') (by have := (Array.getElem?_eq_some_iff.1 h).1; omega) (fun k e => by cases e; omega), World.putObj_heap_other (by omega)⟩
set_option maxRecDepth 100000 in
set_option maxHeartbeats 4000000 in
theorem impl_Move.stops (n : Nat) (hn : 1 ≤ n) (Bs : Nat) (A0 : Option Addr) (c0 : Nat) (l0 : List (S39)) (w w1 : World) (hBs : Bs < w1.heap.size) (hb1 : Below w.heap.size w w1) (hc : Boxed w1 Bs 28 (.slice A0 l0.length c0)) (hr : Kd.C k39 w A0 l0.length l0) :
  SeqStopsK Fence.wide n Try.prog 83 #[.pointer (some ⟨Bs, 0, none⟩)] (fun x : Int × S39 => #[.int .i64 x.1, .agg #[.int .i64 ((x.2).f0), .int .i64 ((x.2).f1)]]) (impl_Move.Kp w.heap.size Bs) (fun ys => ys = backs l0) (fun pre => pre <+: backs l0) l0.length w1 := fun l J Jx W hW hJ hJx hY h0 => by
 have HR0 := Aside0.mk hr
 have HX := Aside0.mk (show Boxed W Bs 28 (.slice A0 l0.length c0) from (hW.block Bs hBs).trans hc)
 have HB0 := Aside0.mk (hb1.trans (hW.mono hb1.size))
 have hc' := HX.out.cell
 have HM := Aside0.mk (Kd.C_max hr)
 clear hr hc hW hb1
 refine callsIn_of_wp Try.func83 rfl trivial ?_ rfl
 simp only [Try.ntmps83, List.size_toArray, List.length_cons, List.length_nil, Nat.reduceAdd, Nat.reduceSub, Array.replicate_succ, Array.replicate_zero, List.push_toArray, List.append_toArray, List.nil_append, List.cons_append]
 gi_wp2
 gi_loopw [3] (fun v wr => ∃ x : Int, v = .int .i64 x ∧ Aside0 (-1 ≤ x ∧ x + 1 ≤ (l0.length : Int)) ∧ J ((backs l0).take ((l0.length : Int) - 1 - x).toNat) wr ∧ Aside0 (Below w.heap.size w wr) ∧ Aside0 (Boxed wr Bs 28 (.slice A0 l0.length c0))) (fun v _ => (intOf v + 1).toNat)
 case atStart =>
  have hm := HM.out
  refine ⟨(l0.length : Int) - 1, ?_, ⟨by omega, by omega⟩, ?_, HB0, HX⟩
  ·rw [show wrap64 ((l0.length : Int) - 1) = (l0.length : Int) - 1 by unfold wrap64; omega]
  ·rw [show ((l0.length : Int) - 1 - ((l0.length : Int) - 1)).toNat = 0 by omega, List.take_zero]; exact h0
 case round =>
  obtain ⟨x, rfl, HI, hJs, HB, HX1⟩ := hrel
  have hcB := HX1.out.cell
  have HW := Aside0.mk (show 0 ≤ x → wrap64 (x - 1) = x - 1 from fun h => by have h1 := HI.out; have h2 := HM.out; unfold wrap64; omega)
  by_cases hlt : 0 ≤ x
  ·have hx1 : x < (l0.length : Int) := by have := HI.out; omega
   have p0 := eq_true hlt
   have q0 := eq_true hx1
   have p1 : decide (0 ≤ x) = true := decide_eq_true hlt
   have q1 : decide (x < (l0.length : Int)) = true := decide_eq_true hx1
   obtain ⟨ad, e, hx_0, hx_1⟩ := at_T39 HR0.out x hlt hx1
   cases e
   replace hx_0 := (HB.out.cell (World.block_lt_of_cell? w _ hx_0)).trans hx_0
   replace hx_1 := (HB.out.cell (World.block_lt_of_cell? w _ hx_1)).trans hx_1
   have HL := Aside0.mk hlt
   have HL1 := Aside0.mk hx1
   obtain ⟨fn, tmps, assign, body, hy, hR⟩ := hY _ (x, rd_T39 l0 x) wr hJs (by rw [List.length_take, backs_length]; omega)
   clear hlt hx1
   dsimp only at hy
   gi_wp2
   refine hR.mono ?_
   rintro e W3 (⟨rfl, hJ3, hk3⟩ | ⟨rfl, hJx3⟩)
   ·have HX3 : Aside0 (Boxed W3 Bs 28 (.slice _ l0.length c0)) := ⟨hk3.2.trans HX1.out⟩
    have HB3 := Aside0.mk (HB.out.trans hk3.1)
    clear hk3
    gi_wp2
    go_roundw
    case rel =>
     refine ⟨x - 1, by rw [HW.out HL.out], ⟨by have := HL.out; omega, by have := HI.out; omega⟩, ?_, HB3, HX3⟩
     rw [backs_step z39 l0 HL.out HL1.out]
     exact hJ3
    case measure => rw [HW.out HL.out]; simp [intOf]; have h1 := HI.out; have h2 := HL.out; omega
   ·gi_wp2
    refine bodyPost_ret (results_none rfl _ _ _) rfl ?_
    exact ⟨⟨_, rfl⟩, .inr ⟨_, by have h_ := List.take_prefix ((l0.length : Int) - 1 - (x - 1)).toNat (backs l0); rw [backs_step z39 l0 HL.out HL1.out] at h_; exact h_, hJx3⟩⟩
  ·have p1 : decide (0 ≤ x) = false := decide_eq_false hlt
   have HL := Aside0.mk hlt
   clear hlt
   gi_wp2
   go_end0
   have h1 := HI.out
   have h2 := HL.out
   rw [List.take_of_length_le (by rw [backs_length]; omega)] at hJs
   exact ⟨⟨_, rfl⟩, .inl hJs⟩

/-! ### impl_start: function 78 -/
def impl_start.go : List Int → List S39 → Option (List Int)
 | l, [] => some l
 | l, m :: ms => match impl_moved.f l m.f1 m.f0 with
  | some (l', true) => impl_start.go l' ms
  | _ => none
theorem impl_start.go_snoc : ∀ (a : List S39) (l : List Int) (m : S39), impl_start.go l (a ++ [m]) = (impl_start.go l a).bind fun l' => impl_start.go l' [m]
 | [], _, _ => rfl
 | x :: a, l, m => by
  show (match impl_moved.f l x.f1 x.f0 with | some (l', true) => impl_start.go l' (a ++ [m]) | _ => none) = _
  show _ = (match impl_moved.f l x.f1 x.f0 with | some (l', true) => impl_start.go l' a | _ => none).bind _
  split
  ·exact impl_start.go_snoc a _ m
  ·rfl
theorem impl_start.go_none {a b : List S39} {l : List Int} (h : impl_start.go l a = none) : impl_start.go l (a ++ b) = none := by
 induction a generalizing l with
 | nil => cases h
 | cons x a ih =>
  show (match impl_moved.f l x.f1 x.f0 with | some (l', true) => impl_start.go l' (a ++ b) | _ => none) = none
  have h' : (match impl_moved.f l x.f1 x.f0 with | some (l', true) => impl_start.go l' a | _ => none) = none := h
  split
  case h_1 heq => rw [heq] at h'; exact ih h'
  case h_2 => rfl
def impl_start.f (l0 : List Int) (l1 : List S39) : Option (List Int × Bool) := (slices_Clone_int_int.f l0).bind fun t => match impl_start.go t l1.reverse with
 | some l => some (l, true)
 | none => some ([], false)
theorem impl_start.mv (l : List Int) (a b : Int) (h : l.length < 17592186044416) : ∃ l' ok, impl_moved.f l a b = some (l', ok) ∧ l'.length ≤ l.length ∧ (ok = false → l' = []) := by
 unfold impl_moved.f
 rw [if_pos h]
 split
 ·exact ⟨_, true, rfl, by simp, fun h => by cases h⟩
 ·exact ⟨[], false, rfl, by simp, fun _ => rfl⟩
set_option maxRecDepth 100000 in
set_option maxHeartbeats 8000000 in
theorem impl_start.calls (A0 : Option Addr) (c0 : Nat) (l0 : List Int) (A1 : Option Addr) (c1 : Nat) (l1 : List S39) (r1 : List Int) (r2 : Bool) (w : World) (hr0 : Kd.C (Kd.int .i64) w A0 l0.length l0) (hc0 : l0.length ≤ c0) (hr1 : Kd.C k39 w A1 l1.length l1) (hc1 : l1.length ≤ c1) (h : impl_start.f l0 l1 = some (r1, r2)) :
  Calls Try.prog 78 #[.slice A0 l0.length c0, .slice A1 l1.length c1] w fun e w' => ∃ v0_ : Value, e = .returned (.tuple #[v0_, .bool r2]) ∧ Kd.R (Kd.int .i64) 3 w' w.heap.size (fun _ => True) v0_ r1 ∧ Below w.heap.size w w' := by
 unfold impl_start.f at h
 cases hcl : slices_Clone_int_int.f l0 with
 | none => rw [hcl] at h; cases h
 | some t =>
 rw [hcl, Option.bind_some] at h
 have htl : t.length < 17592186044416 := by
  unfold slices_Clone_int_int.f at hcl
  split at hcl
  case isTrue hh => obtain rfl := Option.some.inj hcl; exact hh
  case isFalse => cases hcl
 have HC := Aside0.mk (slices_Clone_int_int.calls A0 c0 l0 t ((w.alloc (.cells #[.slice none 0 0] 22)).alloc (.cells #[.bool false] 4)) (Kd.C_alloc (Kd.C_alloc hr0 _) _) hc0 hcl)
 have HR1 := Aside0.mk hr1
 have HG := Aside0.mk h
 have hu := Try.underlying39
 clear hr0 hr1 h hc0 hc1 hcl
 refine (callsIn_wide (n := 6)).1 ?_
 have h1 : 1 ≤ 6 := by decide
 have hfC : Fence.wide.fn 66 := trivial
 have hfB : Fence.wide.fn 63 := trivial
 have hfM : Fence.wide.fn 64 := trivial
 refine callsIn_of_wp_marks Try.func78 rfl trivial ?_ rfl
 simp only [Try.ntmps78, List.size_toArray, List.length_cons, List.length_nil, Nat.reduceAdd, Nat.reduceSub, Array.replicate_succ, Array.replicate_zero, List.push_toArray, List.append_toArray, List.nil_append, List.cons_append]
 gi_wp2_with (first
  | (gi_at_call 66; refine (callsIn_wide.2 HC.out).mono ?_; clear HC; rintro e W1 ⟨v, rfl, hR, hb⟩; obtain ⟨A2, c2, rfl⟩ := Kd.R_slice hR; have HR := Aside0.mk hR; have HB1 := Aside0.mk hb; clear hR hb)
  | (gi_at_call 63; refine (callsIn_wide.2 (impl_Move.calls _ _ _ _)).mono ?_; rintro e w' ⟨rfl, rfl⟩))
 have hs1 : w.heap.size + 2 ≤ W1.heap.size := by have := HB1.out.size; simp at this; omega
 have b4 : Boxed W1 w.heap.size 22 (.slice none 0 0) := (HB1.out.block w.heap.size (by simp; omega)).trans ((Boxed.new w 22 (.slice none 0 0)).alloc _)
 have b5 : Boxed W1 (w.heap.size + 1) 4 (.bool false) := (HB1.out.block (w.heap.size + 1) (by simp)).trans (by have h_ := Boxed.new (w.alloc (.cells #[.slice none 0 0] 22)) 4 (.bool false); rw [World.size_alloc] at h_; exact h_)
 have hB0 : Below w.heap.size w W1 := (((Below.refl _ w).alloc (Nat.le_refl _) _).alloc (by simp) _).trans (HB1.out.mono (by simp; omega))
 have hB2 : Below w.heap.size w (((W1.alloc (.cells #[.slice A2 t.length c2] 22)).alloc (.cells #[.bool true] 4)).alloc (.cells #[.slice A1 l1.length c1] 28)) := ((hB0.alloc hB0.size _).alloc (by have := hB0.size; simp; omega) _).alloc (by have := hB0.size; simp; omega) _
 have hR2 : Kd.R (Kd.int .i64) 3 (((W1.alloc (.cells #[.slice A2 t.length c2] 22)).alloc (.cells #[.bool true] 4)).alloc (.cells #[.slice A1 l1.length c1] 28)) w.heap.size (fun _ => True) (.slice A2 t.length c2) t := Kd.R_lower (Kd.R_alloc (Kd.R_alloc (Kd.R_alloc HR.out _) _) _) (by simp; omega)
 have b4' := ((b4.alloc (.cells #[.slice A2 t.length c2] 22)).alloc (.cells #[.bool true] 4)).alloc (.cells #[.slice A1 l1.length c1] 28)
 have b5' := ((b5.alloc (.cells #[.slice A2 t.length c2] 22)).alloc (.cells #[.bool true] 4)).alloc (.cells #[.slice A1 l1.length c1] 28)
 have b6' := ((Boxed.new W1 22 (.slice A2 t.length c2)).alloc (.cells #[.bool true] 4)).alloc (.cells #[.slice A1 l1.length c1] 28)
 have b7' := (Boxed.new (W1.alloc (.cells #[.slice A2 t.length c2] 22)) 4 (.bool true)).alloc (.cells #[.slice A1 l1.length c1] 28)
 have bX' := Boxed.new ((W1.alloc (.cells #[.slice A2 t.length c2] 22)).alloc (.cells #[.bool true] 4)) 28 (.slice A1 l1.length c1)
 simp only [World.size_alloc] at b7' bX'
 have hsz : (((W1.alloc (.cells #[.slice A2 t.length c2] 22)).alloc (.cells #[.bool true] 4)).alloc (.cells #[.slice A1 l1.length c1] 28)).heap.size = W1.heap.size + 3 := by simp
 clear HB1 HR b4 b5 hB0
 obtain ⟨W2, hW2⟩ : ∃ W2, ((W1.alloc (.cells #[.slice A2 t.length c2] 22)).alloc (.cells #[.bool true] 4)).alloc (.cells #[.slice A1 l1.length c1] 28) = W2 := ⟨_, rfl⟩
 rw [hW2] at b4' b5' b6' b7' bX' hB2 hR2 hsz ⊢
 clear hW2
 have own1 : ∀ {B : Nat} {tt : TypeId} {v : Value} {X Y : World} {row : Option Nat}, Boxed X B tt v → X.grownBy Y row → (∀ r, row = some r → W2.heap.size ≤ r ∧ ∃ o : Obj, X.heap[r]? = some o ∧ o.isCells = false) → Boxed Y B tt v := fun {B tt v X Y row} hb hg hr => boxed_own B tt (fun _ : Unit => v) () X Y row hb hg (fun r e => (hr r e).2)
 refine wpIn_rangeFunc_ownH rfl h1 (gf := 83) (lb := #[.pointer (some ⟨W1.heap.size + 1 + 1, 0, none⟩)]) rfl trivial (enters_of Try.func83 (by kernel_rfl) rfl)
  (impl_Move.stops 5 (by decide) (W1.heap.size + 1 + 1) A1 c1 l1 w W2 (by omega) hB2 bX' HR1.out) impl_Move.Kp_t (impl_Move.Kp_b (by omega) (by omega)) (Below.refl _ _) (fun _ => rfl)
  (fun pre W => ∃ (v : Value) (l : List Int), (Boxed W W1.heap.size 22 v ∧ Kd.R (Kd.int .i64) 3 W w.heap.size (fun _ => True) v l ∧ impl_start.go t (pre.map Prod.snd) = some l ∧ l.length ≤ t.length) ∧ (Boxed W (W1.heap.size + 1) 4 (.bool true) ∧ Boxed W w.heap.size 22 (.slice none 0 0) ∧ Boxed W (w.heap.size + 1) 4 (.bool false)) ∧ W2.heap.size ≤ W.heap.size ∧ Below w.heap.size w W)
  (fun c pre W => c = .ret ∧ impl_start.go t (pre.map Prod.snd) = none ∧ (Boxed W w.heap.size 22 (.slice none 0 0) ∧ Boxed W (w.heap.size + 1) 4 (.bool false)) ∧ Below w.heap.size w W)
  (fun s X Y row hs hg hr => by
   obtain ⟨v, l, ⟨k1, k2, k3⟩, ⟨k4, k5, k6⟩, k9, k7⟩ := hs
   exact ⟨v, l, ⟨own1 k1 hg hr, R_ownFrom W2.heap.size () X Y row k2 hg hr, k3⟩, ⟨own1 k4 hg hr, own1 k5 hg hr, own1 k6 hg hr⟩, Nat.le_trans k9 hg.size, ownFrom_below (β := Unit) (Nat.le_refl _) (by omega) () X Y row k7 hg hr⟩)
  (fun c s X Y row hs hg hr => by
   obtain ⟨k0, k1, ⟨k2, k3⟩, k4⟩ := hs
   exact ⟨k0, k1, ⟨own1 k2 hg hr, own1 k3 hg hr⟩, ownFrom_below (β := Unit) (Nat.le_refl _) (by omega) () X Y row k4 hg hr⟩)
  ⟨.slice A2 t.length c2, t, ⟨b6', hR2, rfl, Nat.le_refl _⟩, ⟨b7', b4', b5'⟩, Nat.le_refl _, hB2⟩
  (fun x a' W => ∃ Bx, W2.heap.size ≤ Bx ∧ W.heap[Bx]? = some (.cells #[.int .i64 x.2.f0, .int .i64 x.2.f1] 39 (0, 0)) ∧ a' = { tmps := #[.slice A0 l0.length c0, .slice A1 l1.length c1, undef, undef, .pointer (some ⟨w.heap.size, 0, none⟩), .pointer (some ⟨w.heap.size + 1, 0, none⟩), .pointer (some ⟨W1.heap.size, 0, none⟩), .pointer (some ⟨W1.heap.size + 1, 0, none⟩), undef, .pointer (some ⟨Bx, 0, none⟩), .slice A0 l0.length c0, .slice A2 t.length c2, .slice A1 l1.length c1, .func (.func 83) #[] #[.pointer (some ⟨W1.heap.size + 1 + 1, 0, none⟩)], .int .i64 x.1, .agg #[.int .i64 x.2.f0, .int .i64 x.2.f1], undef, undef, undef, undef, undef, undef, undef, undef, undef, undef, undef, undef, undef], defers := [] })
  (fun x a' _ X Y row hs hg hr => by
   obtain ⟨Bx, k1, k2, k3⟩ := hs
   exact ⟨Bx, k1, (hg.block Bx (Array.getElem?_eq_some_iff.1 k2).1 (fun er => by obtain ⟨_, o, ho, hc⟩ := hr Bx er.symm; rw [k2] at ho; cases ho; cases hc)).trans k2, k3⟩)
  ?assign ?body ?done ?stop
 case assign =>
  rintro l pre x W K ⟨v, lc, ⟨k1, k2, k3⟩, ⟨k4, k5, k6⟩, k9, k7⟩ hK
  gi_wp2_with gi_round_op_a
  exact hK _ _ ((KeepsOthers.alloc _ _).from _) ⟨(Below.refl _ W).alloc k7.size _, Below.heap_alloc W _ _ (by omega)⟩ ⟨v, lc, ⟨k1.alloc _, Kd.R_alloc k2 _, k3⟩, ⟨k4.alloc _, k5.alloc _, k6.alloc _⟩, by simp; omega, k7.alloc k7.size _⟩ ⟨W.heap.size, k9, World.alloc_heap_new W _, rfl⟩
 case body =>
  rintro l pre x a' W hl ⟨r, hr⟩ ⟨v, lc, ⟨k1, k2, k3, k8⟩, ⟨k4, k5, k6⟩, k9, k7⟩ ⟨Bx, hBx, bx, rfl⟩ hlt
  obtain ⟨A3, c3, rfl⟩ := Kd.R_slice k2
  obtain ⟨hn3, hc3, hC3⟩ := Kd.R_reads' k2
  obtain ⟨l', ok, hmv, hl', hok⟩ := impl_start.mv lc x.2.f1 x.2.f0 (by omega)
  have HM := Aside0.mk (impl_moved.calls A3 c3 lc x.2.f1 x.2.f0 l' ok W hC3 (by omega) hmv)
  have c6 := k1.cell
  have f6 := k1.frozen
  have c7 := k4.cell
  have f7 := k4.frozen
  have cx0 : W.cell? ⟨Bx, 0, none⟩ = some (.int .i64 x.2.f0) := (blk_cell bx 0).trans rfl
  have cx1 : W.cell? ⟨Bx, 1, none⟩ = some (.int .i64 x.2.f1) := (blk_cell bx 1).trans rfl
  have h1' : 1 ≤ 6 - 1 - 1 := by decide
  have hsz1 : W2.heap.size ≤ W.heap.size := k9
  have hw0 := k7.size
  cases ok with
  | true =>
   gi_wp2_with (first
    | (gi_at_call 64; refine (CallsIn.inRound l (callsIn_wide.2 HM.out)).mono ?_; clear HM; rintro e W3 ⟨v3, rfl, hR3, hb3⟩; obtain ⟨A4, c4, rfl⟩ := Kd.R_slice hR3; have b63 : Boxed W3 W1.heap.size 22 (.slice A3 lc.length c3) := (hb3.block _ k1.lt).trans k1; have b73 : Boxed W3 (W1.heap.size + 1) 4 (.bool true) := (hb3.block _ k4.lt).trans k4; have b43 : Boxed W3 w.heap.size 22 (.slice none 0 0) := (hb3.block _ k5.lt).trans k5; have b53 : Boxed W3 (w.heap.size + 1) 4 (.bool false) := (hb3.block _ k6.lt).trans k6; have c63 := b63.cell; have f63 := b63.frozen; have c73 := b73.cell; have f73 := b73.frozen; have HR3 := Aside0.mk hR3; clear hR3)
    | gi_round_op_a)
   have hset6 := Boxed.set (.slice A4 l'.length c4) b63
   have hR5 : Kd.R (Kd.int .i64) 3 ((W3.setCell ⟨W1.heap.size, 0, none⟩ (.slice A4 l'.length c4)).setCell ⟨W1.heap.size + 1, 0, none⟩ (.bool true)) w.heap.size (fun _ => True) (.slice A4 l'.length c4) l' :=
    Kd.R_set (Kd.R_set (Kd.R_lower HR3.out k7.size) b63 (by decide) 0 _) ((b73.other (by omega) _)) (by decide) 0 _
   refine ⟨((keeps_below hb3).trans ((KeepsOthers.setCell _ _ _).from _)).trans ((KeepsOthers.setCell _ _ _).from _),
    ⟨((hb3.mono k7.size).setCell (p := ⟨W1.heap.size, 0, none⟩) (by simp; omega) _).setCell (p := ⟨W1.heap.size + 1, 0, none⟩) (by simp; omega) _, ((Below.heap_setCell _ ⟨W1.heap.size + 1, 0, none⟩ _ _ (by simp)).trans (Below.heap_setCell _ ⟨W1.heap.size, 0, none⟩ _ _ (by simp; omega))).trans (hb3.block _ (by omega))⟩,
    _, l', ⟨(Boxed.set _ b63).other (by omega) _, hR5, ?_, by omega⟩, ⟨(b73.other (by omega) _).set _, (b43.other (by omega) _).other (by omega) _, (b53.other (by omega) _).other (by omega) _⟩, ?_, ?_⟩
   ·rw [List.map_append, List.map_cons, List.map_nil, impl_start.go_snoc, k3, Option.bind_some]
    show (match impl_moved.f lc x.2.f1 x.2.f0 with | some (l', true) => impl_start.go l' [] | _ => none) = some l'
    rw [hmv]
    rfl
   ·have h_ := hb3.size
    simp
    omega
   ·exact ((k7.trans (hb3.mono k7.size)).setCell (p := ⟨W1.heap.size, 0, none⟩) (by simp; omega) _).setCell (p := ⟨W1.heap.size + 1, 0, none⟩) (by simp; omega) _
  | false =>
   obtain rfl := hok rfl
   gi_wp2_with (first
    | (gi_at_call 64; refine (CallsIn.inRound l (callsIn_wide.2 HM.out)).mono ?_; clear HM; rintro e W3 ⟨v3, rfl, hR3, hb3⟩; obtain ⟨A4, c4, rfl⟩ := Kd.R_slice hR3; have b63 : Boxed W3 W1.heap.size 22 (.slice A3 lc.length c3) := (hb3.block _ k1.lt).trans k1; have b73 : Boxed W3 (W1.heap.size + 1) 4 (.bool true) := (hb3.block _ k4.lt).trans k4; have b43 : Boxed W3 w.heap.size 22 (.slice none 0 0) := (hb3.block _ k5.lt).trans k5; have b53 : Boxed W3 (w.heap.size + 1) 4 (.bool false) := (hb3.block _ k6.lt).trans k6; have c63 := b63.cell; have f63 := b63.frozen; have c73 := b73.cell; have f73 := b73.frozen; have c43 := b43.cell; have f43 := b43.frozen; have c53 := b53.cell; have f53 := b53.frozen)
    | gi_round_op_a)
   refine ⟨((((keeps_below hb3).trans ((KeepsOthers.setCell _ _ _).from _)).trans ((KeepsOthers.setCell _ _ _).from _)).trans ((KeepsOthers.setCell _ _ _).from _)).trans ((KeepsOthers.setCell _ _ _).from _), rfl, ?_, ⟨?_, ?_⟩, ?_⟩
   ·rw [List.map_append, List.map_cons, List.map_nil, impl_start.go_snoc, k3, Option.bind_some]
    show (match impl_moved.f lc x.2.f1 x.2.f0 with | some (l', true) => impl_start.go l' [] | _ => none) = none
    rw [hmv]
   ·exact (((b43.other (by omega) _).other (by omega) _).set _).other (by omega) _
   ·exact (((b53.other (by omega) _).other (by omega) _).other (by omega) _).set _
   ·exact ((((k7.trans (hb3.mono k7.size)).setCell (p := ⟨W1.heap.size, 0, none⟩) (by simp; omega) _).setCell (p := ⟨W1.heap.size + 1, 0, none⟩) (by simp; omega) _).setCell (p := ⟨w.heap.size, 0, none⟩) (by simp) _).setCell (p := ⟨w.heap.size + 1, 0, none⟩) (by simp) _
 case done =>
  rintro D xs W hD rfl ⟨v, lc, ⟨k1, k2, k3, k8⟩, ⟨k4, k5, k6⟩, k9, k7⟩ hK
  obtain ⟨A3, c3, rfl⟩ := Kd.R_slice k2
  have c6 := k1.cell
  have c4 := k5.cell
  have f4 := k5.frozen
  have c5 := k6.cell
  have f5 := k6.frozen
  have HR3 := Aside0.mk k2
  clear k2
  gi_wp2
  rw [backs_snd] at k3
  have hg := HG.out
  rw [k3] at hg
  obtain ⟨rfl, rfl⟩ : lc = r1 ∧ true = r2 := by simpa using hg
  have hDl : D < W.heap.size := (Array.getElem?_eq_some_iff.1 hK).1
  have hK3 : ((W.setCell ⟨w.heap.size, 0, none⟩ (.slice A3 lc.length c3)).setCell ⟨w.heap.size + 1, 0, none⟩ (.bool true)).heap[D]? = some (.deferred (some [])) := (KeepsOthers.setCell _ _ _).same D _ ((KeepsOthers.setCell _ _ _).same D _ hK rfl) rfl
  have b4 := (k5.set (.slice A3 lc.length c3)).other (B' := w.heap.size + 1) (by omega) (.bool true)
  have b5 := ((k6.other (B' := w.heap.size) (by omega) (.slice A3 lc.length c3))).set (.bool true)
  have hRW := Kd.R_set (Kd.R_set HR3.out k5 (by decide) 0 (.slice A3 lc.length c3)) (k6.other (B' := w.heap.size) (by omega) (.slice A3 lc.length c3)) (by decide) 0 (.bool true)
  have hBW : Below w.heap.size w ((W.setCell ⟨w.heap.size, 0, none⟩ (.slice A3 lc.length c3)).setCell ⟨w.heap.size + 1, 0, none⟩ (.bool true)) := (k7.setCell (p := ⟨w.heap.size, 0, none⟩) (by simp) _).setCell (p := ⟨w.heap.size + 1, 0, none⟩) (by simp) _
  clear HR3 k7 k5 k6 c4 c5 f4 f5
  obtain ⟨W4, hW4⟩ : ∃ W4, (W.setCell ⟨w.heap.size, 0, none⟩ (.slice A3 lc.length c3)).setCell ⟨w.heap.size + 1, 0, none⟩ (.bool true) = W4 := ⟨_, rfl⟩
  rw [hW4] at b4 b5 hRW hBW hK3 ⊢
  refine ⟨by simp, .inl ⟨_, _, rfl, run_takeDeferred hK3, ?_⟩⟩
  have b4' := own1 (row := some D) b4 (grownBy_putObj' _ D (.deferred none)) (fun r e => by cases e; exact ⟨hD, _, hK3, rfl⟩)
  have b5' := own1 (row := some D) b5 (grownBy_putObj' _ D (.deferred none)) (fun r e => by cases e; exact ⟨hD, _, hK3, rfl⟩)
  refine ⟨_, results_cells2 rfl _ _ ⟨w.heap.size, 0, none⟩ ⟨w.heap.size + 1, 0, none⟩ _ _ rfl rfl b4'.cell b5'.cell Try.isAgg22 Try.isAgg4, _, rfl, ?_, ?_⟩
  ·exact R_ownFrom W2.heap.size () W4 _ (some D) hRW (grownBy_putObj' _ D (.deferred none)) (fun r e => by cases e; exact ⟨hD, _, hK3, rfl⟩)
  ·exact hBW.trans (belowK_b (w := w) (Nat.le_refl _) W4 D _ _ (by omega) hK3 rfl rfl)
 case stop =>
  rintro D c pre W hD hSp ⟨rfl, k1, ⟨k2, k3⟩, k4⟩ hK
  gi_wp2
  have hg := HG.out
  obtain ⟨rest, hrest⟩ := hSp
  have hrev : l1.reverse = pre.map Prod.snd ++ rest.map Prod.snd := by rw [← backs_snd, ← hrest, List.map_append]
  rw [hrev, impl_start.go_none k1] at hg
  obtain ⟨rfl, rfl⟩ : ([] : List Int) = r1 ∧ false = r2 := by simpa using hg
  refine ⟨by simp, .inl ⟨_, _, rfl, run_takeDeferred hK, ?_⟩⟩
  have b4' := own1 (row := some D) k2 (grownBy_putObj' _ D (.deferred none)) (fun r e => by cases e; exact ⟨hD, _, hK, rfl⟩)
  have b5' := own1 (row := some D) k3 (grownBy_putObj' _ D (.deferred none)) (fun r e => by cases e; exact ⟨hD, _, hK, rfl⟩)
  refine ⟨_, results_cells2 rfl _ _ ⟨w.heap.size, 0, none⟩ ⟨w.heap.size + 1, 0, none⟩ _ _ rfl rfl b4'.cell b5'.cell Try.isAgg22 Try.isAgg4, _, rfl, Kd.R_nil _ _ _ _ _, ?_⟩
  exact k4.trans (belowK_b (w := w) (Nat.le_refl _) W D _ _ (by omega) hK rfl rfl)

end Go.Proofs.Ytccnpnlmihcmlaa.GLStartOf
