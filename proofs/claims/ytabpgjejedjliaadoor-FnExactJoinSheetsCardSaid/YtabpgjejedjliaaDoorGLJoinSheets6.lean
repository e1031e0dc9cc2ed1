-- Written by a program of this session (gprint.py), over the kit's print: not trusted: Lean checks it.
import Derived.Test.YtabpgjejedjliaaDoorGLJoinSheets0
namespace Go.Proofs.YtabpgjejedjliaaDoor.GLJoinSheets
open Go.RowKit Go.Proofs.YtabpgjejedjliaaDoorW.PrintWords Go.Proofs.YtabpgjejedjliaaDoorW.PrintLast Go.Proofs.YtabpgjejedjliaaDoorW.PrintMore Go.Proofs.YtabpgjejedjliaaDoorW.PrintOwn
attribute [local go_sem] max2_int min2_int max_two min_two max_three min_three max_four min_four   -- for this text's walks alone
set_option linter.unusedVariables false
set_option linter.unusedSimpArgs false

/-! ### impl_within: function 61 -/
def impl_within.f (a0 : Int) (a1 : Int) (a2 : Int) : Option (Bool) := if a0 ≥ a1 then (some (decide (a0 ≤ a2))) else (some false)
set_option maxHeartbeats 8000000 in
set_option maxRecDepth 100000 in
theorem impl_within.calls (a0 : Int) (a1 : Int) (a2 : Int) (r : Bool) (w : World) (h : impl_within.f a0 a1 a2 = some r) :
  Calls Tryd.prog 61 #[.int .i64 a0, .int .i64 a1, .int .i64 a2] w fun e w' => e = .returned (.bool r) ∧ Drawn0 w w' := by
 have H : (if a0 ≥ a1 then (some (decide (a0 ≤ a2))) else (some false)) = some r := h
 clear h
 by_cases c4 : a0 ≥ a1
 ·rw [if_pos c4] at H
  have c4b0 : decide (a1 ≤ a0) = true := decide_eq_true c4
  clear c4
  obtain rfl := Option.some.inj H
  go_enter Tryd.func61, Tryd.ntmps61
  go_wp2
  go_ret
  exact ⟨by first | rfl | (simp; done) | (simp [*]; done), by repeat (first | exact Drawn0.refl _ | apply Drawn0.step)⟩
 ·rw [if_neg c4] at H
  have c4b0 : decide (a1 ≤ a0) = false := decide_eq_false c4
  clear c4
  obtain rfl := Option.some.inj H
  go_enter Tryd.func61, Tryd.ntmps61
  go_wp2
  go_ret
  exact ⟨by first | rfl | (simp; done) | (simp [*]; done), by repeat (first | exact Drawn0.refl _ | apply Drawn0.step)⟩

/-! ### strings_trimLeftByte: function 80 -/
def strings_trimLeftByte.l0 : Nat → ByteArray → Int → Option (ByteArray)
 | 0, _, _ => none
 | k + 1, x0, x1 => if (x0.size : Int) > 0 then (if 0 < (x0.size : Int) then (if (bt x0 0) = x1 then (if 1 ≤ (x0.size : Int) then (strings_trimLeftByte.l0 k (x0.extract 1 x0.size) x1) else (none)) else (some x0)) else (none)) else (some x0)
def strings_trimLeftByte.f (k : Nat) (a0 : ByteArray) (a1 : Int) : Option (ByteArray) := strings_trimLeftByte.l0 k a0 a1
theorem strings_trimLeftByte.mono_l : ∀ k, (∀ y0 y1, LeO (strings_trimLeftByte.l0 k y0 y1) (strings_trimLeftByte.l0 (k + 1) y0 y1))
 | 0 => fun _ _ r h => by simp [strings_trimLeftByte.l0] at h
 | k + 1 => by
  have ih0 := strings_trimLeftByte.mono_l k
  ·intro y0 y1
   unfold strings_trimLeftByte.l0
   repeat' first
   | (with_reducible exact ih0 _ _)
   | (with_reducible exact LeO.refl _)
   | (with_reducible exact LeO.none _)
   | (with_reducible refine LeO.ite ?_ ?_)
   | (with_reducible refine LeO.bind ?_ (fun _ => ?_))
   | exact ih0 _ _
   | exact LeO.none _
   | refine LeO.ite ?_ ?_
   | refine LeO.bind ?_ (fun _ => ?_)
theorem strings_trimLeftByte.mono : ∀ a0 a1 k, LeO (strings_trimLeftByte.f k a0 a1) (strings_trimLeftByte.f (k + 1) a0 a1) := by
 intro a0 a1 k
 have ih0 := strings_trimLeftByte.mono_l k
 unfold strings_trimLeftByte.f
 repeat' first
   | (with_reducible exact ih0 _ _)
   | (with_reducible exact LeO.refl _)
   | (with_reducible exact LeO.none _)
   | (with_reducible refine LeO.ite ?_ ?_)
   | (with_reducible refine LeO.bind ?_ (fun _ => ?_))
   | exact ih0 _ _
   | exact LeO.none _
   | refine LeO.ite ?_ ?_
   | refine LeO.bind ?_ (fun _ => ?_)
set_option maxHeartbeats 8000000 in
set_option maxRecDepth 100000 in
theorem strings_trimLeftByte.calls (k : Nat) (a0 : ByteArray) (a1 : Int) (r : ByteArray) (w : World) (h : strings_trimLeftByte.f k a0 a1 = some r) :
  Calls Tryd.prog 80 #[.string a0, .int .u8 a1] w fun e w' => e = .returned (.string r) ∧ Drawn0 w w' := by
 have H : (strings_trimLeftByte.l0 k a0 a1) = some r := h
 clear h
 have H' := Aside0.mk H
 clear H
 go_enter Tryd.func80, Tryd.ntmps80
 go_wp2
 go_loopg [0] k (fun kq v0 w' => ∃ (x0_1 : ByteArray), v0 = .string x0_1 ∧ Aside0 (strings_trimLeftByte.l0 kq x0_1 a1 = some r) ∧ Aside0 (kq ≤ k) ∧ Drawn0 w w')
 case atStart => exact ⟨(a0), (by first | rfl | (simp; done) | (simp [*]; done)), H', ⟨Nat.le_refl _⟩, by repeat (first | exact Drawn0.refl _ | apply Drawn0.step)⟩
 case round =>
  clear H'
  try clear p2
  obtain ⟨x0_1, rfl, HA, HK1, ⟨m1, rfl⟩⟩ := hrel
  cases gk with
  | zero => exact absurd HA.out (by simp [strings_trimLeftByte.l0])
  | succ k1 =>
   have H := HA.out
   clear HA
   simp only [strings_trimLeftByte.l0] at H
   by_cases c3 : (x0_1.size : Int) > 0
   ·rw [if_pos c3] at H
    have c3b0 : decide (0 < (x0_1.size : Int)) = true := decide_eq_true c3
    have c3b1 : decide (0 < x0_1.size) = true := decide_eq_true (by omega)
    clear c3
    by_cases c4 : 0 < (x0_1.size : Int)
    case neg => rw [if_neg c4] at H; cases H
    rw [if_pos c4] at H
    have c4b0 : decide (0 < (x0_1.size : Int)) = true := decide_eq_true c4
    have c4b1 : decide (0 < x0_1.size) = true := decide_eq_true (by omega)
    clear c4
    by_cases c6 : (bt x0_1 0) = a1
    ·rw [if_pos c6] at H
     have c6b0 : ((bt x0_1 0) == a1) = true := beq_iff_eq.mpr c6
     have c6b1 : ((bt x0_1 0) != a1) = false := bne_eq_false_iff_eq.mpr c6
     clear c6
     by_cases c7 : 1 ≤ (x0_1.size : Int)
     case neg => rw [if_neg c7] at H; cases H
     rw [if_pos c7] at H
     have c7b0 := eq_true c7
     have c7b1 : decide (1 ≤ (x0_1.size : Int)) = true := decide_eq_true c7
     clear c7
     have H' := Aside0.mk H
     clear H
     have p5 : 0 ≤ (0 : Int) := (by omega)
     have q5 : 0 < x0_1.size := (by have : (0 : Int) < (x0_1.size : Int) := of_decide_eq_true (by first | (with_reducible assumption) | assumption); omega)
     have hx5 : ∀ h : 0 < x0_1.size, ((x0_1[0]'h).toNat : Int) = bt x0_1 0 := bt_at x0_1 0
     clear p5
     have qi5 : (0 < (x0_1.size : Int)) = True := eq_true (of_decide_eq_true (by first | (with_reducible assumption) | assumption))
     replace q5 := eq_true q5
     go_wp2
     go_roundg k1
     case measure => have := HK1.out; omega
     case rel => exact ⟨(x0_1.extract 1 x0_1.size), (by first | rfl | (simp; done) | (simp [*]; done)), H', ⟨by have := HK1.out; omega⟩, by repeat (first | exact Drawn0.refl _ | apply Drawn0.step)⟩
    ·rw [if_neg c6] at H
     have c6b0 : ((bt x0_1 0) == a1) = false := beq_eq_false_iff_ne.mpr c6
     have c6b1 : ((bt x0_1 0) != a1) = true := bne_iff_ne.mpr c6
     obtain rfl := Option.some.inj H
     have p5 : 0 ≤ (0 : Int) := (by omega)
     have q5 : 0 < x0_1.size := (by have : (0 : Int) < (x0_1.size : Int) := of_decide_eq_true (by first | (with_reducible assumption) | assumption); omega)
     have hx5 : ∀ h : 0 < x0_1.size, ((x0_1[0]'h).toNat : Int) = bt x0_1 0 := bt_at x0_1 0
     clear p5
     have qi5 : (0 < (x0_1.size : Int)) = True := eq_true (of_decide_eq_true (by first | (with_reducible assumption) | assumption))
     replace q5 := eq_true q5
     go_wp2
     go_ret
     exact ⟨by first | rfl | (simp; done) | (simp [*]; done), by repeat (first | exact Drawn0.refl _ | apply Drawn0.step)⟩
   ·rw [if_neg c3] at H
    have c3b0 : decide (0 < (x0_1.size : Int)) = false := decide_eq_false c3
    have c3b1 : decide (0 < x0_1.size) = false := decide_eq_false (by omega)
    clear c3
    obtain rfl := Option.some.inj H
    go_wp2
    go_ret
    exact ⟨by first | rfl | (simp; done) | (simp [*]; done), by repeat (first | exact Drawn0.refl _ | apply Drawn0.step)⟩

/-! ### strings_trimRightByte: function 81 -/
def strings_trimRightByte.l0 : Nat → ByteArray → Int → Option (ByteArray)
 | 0, _, _ => none
 | k + 1, x0, x1 => if (x0.size : Int) > 0 then (if 0 ≤ (wrap64 ((x0.size : Int) - 1)) then (if (wrap64 ((x0.size : Int) - 1)) < (x0.size : Int) then (if (bt x0 (wrap64 ((x0.size : Int) - 1))) = x1 then (if (wrap64 ((x0.size : Int) - 1)) ≤ (x0.size : Int) then (strings_trimRightByte.l0 k (x0.extract 0 ((wrap64 ((x0.size : Int) - 1)) : Int).toNat) x1) else (none)) else (some x0)) else (none)) else (none)) else (some x0)
def strings_trimRightByte.f (k : Nat) (a0 : ByteArray) (a1 : Int) : Option (ByteArray) := strings_trimRightByte.l0 k a0 a1
theorem strings_trimRightByte.mono_l : ∀ k, (∀ y0 y1, LeO (strings_trimRightByte.l0 k y0 y1) (strings_trimRightByte.l0 (k + 1) y0 y1))
 | 0 => fun _ _ r h => by simp [strings_trimRightByte.l0] at h
 | k + 1 => by
  have ih0 := strings_trimRightByte.mono_l k
  ·intro y0 y1
   unfold strings_trimRightByte.l0
   repeat' first
   | (with_reducible exact ih0 _ _)
   | (with_reducible exact LeO.refl _)
   | (with_reducible exact LeO.none _)
   | (with_reducible refine LeO.ite ?_ ?_)
   | (with_reducible refine LeO.bind ?_ (fun _ => ?_))
   | exact ih0 _ _
   | exact LeO.none _
   | refine LeO.ite ?_ ?_
   | refine LeO.bind ?_ (fun _ => ?_)
theorem strings_trimRightByte.mono : ∀ a0 a1 k, LeO (strings_trimRightByte.f k a0 a1) (strings_trimRightByte.f (k + 1) a0 a1) := by
 intro a0 a1 k
 have ih0 := strings_trimRightByte.mono_l k
 unfold strings_trimRightByte.f
 repeat' first
   | (with_reducible exact ih0 _ _)
   | (with_reducible exact LeO.refl _)
   | (with_reducible exact LeO.none _)
   | (with_reducible refine LeO.ite ?_ ?_)
   | (with_reducible refine LeO.bind ?_ (fun _ => ?_))
   | exact ih0 _ _
   | exact LeO.none _
   | refine LeO.ite ?_ ?_
   | refine LeO.bind ?_ (fun _ => ?_)
set_option maxHeartbeats 8000000 in
set_option maxRecDepth 100000 in
theorem strings_trimRightByte.calls (k : Nat) (a0 : ByteArray) (a1 : Int) (r : ByteArray) (w : World) (h : strings_trimRightByte.f k a0 a1 = some r) :
  Calls Tryd.prog 81 #[.string a0, .int .u8 a1] w fun e w' => e = .returned (.string r) ∧ Drawn0 w w' := by
 have H : (strings_trimRightByte.l0 k a0 a1) = some r := h
 clear h
 have H' := Aside0.mk H
 clear H
 go_enter Tryd.func81, Tryd.ntmps81
 go_wp2
 go_loopg [0] k (fun kq v0 w' => ∃ (x0_1 : ByteArray), v0 = .string x0_1 ∧ Aside0 (strings_trimRightByte.l0 kq x0_1 a1 = some r) ∧ Aside0 (kq ≤ k) ∧ Drawn0 w w')
 case atStart => exact ⟨(a0), (by first | rfl | (simp; done) | (simp [*]; done)), H', ⟨Nat.le_refl _⟩, by repeat (first | exact Drawn0.refl _ | apply Drawn0.step)⟩
 case round =>
  clear H'
  try clear p2
  obtain ⟨x0_1, rfl, HA, HK1, ⟨m1, rfl⟩⟩ := hrel
  cases gk with
  | zero => exact absurd HA.out (by simp [strings_trimRightByte.l0])
  | succ k1 =>
   have H := HA.out
   clear HA
   simp only [strings_trimRightByte.l0] at H
   by_cases c3 : (x0_1.size : Int) > 0
   ·rw [if_pos c3] at H
    have c3b0 : decide (0 < (x0_1.size : Int)) = true := decide_eq_true c3
    have c3b1 : decide (0 < x0_1.size) = true := decide_eq_true (by omega)
    clear c3
    obtain ⟨ji4, hji4⟩ : ∃ j_ : Int, (wrap64 ((x0_1.size : Int) - 1)) = j_ := ⟨_, rfl⟩
    replace H : (if 0 ≤ (ji4) then (if (ji4) < (x0_1.size : Int) then (if (bt x0_1 (ji4)) = a1 then (if (ji4) ≤ (x0_1.size : Int) then (strings_trimRightByte.l0 k1 (x0_1.extract 0 ((ji4) : Int).toNat) a1) else (none)) else (some x0_1)) else (none)) else (none)) = some r := by first | (rw [hji4] at H; exact H) | (simp only [hji4] at H ⊢; exact H)
    have hji4w : (IntKind.i64.wrap ((x0_1.size : Int) - 1)) = ji4 := (i64_w _).trans hji4
    by_cases c5 : 0 ≤ (ji4)
    case neg => rw [if_neg c5] at H; cases H
    rw [if_pos c5] at H
    have c5b0 : decide (0 ≤ (ji4)) = true := decide_eq_true c5
    clear c5
    by_cases c6 : (ji4) < (x0_1.size : Int)
    case neg => rw [if_neg c6] at H; cases H
    rw [if_pos c6] at H
    have c6b0 : decide ((ji4) < (x0_1.size : Int)) = true := decide_eq_true c6
    clear c6
    by_cases c8 : (bt x0_1 (ji4)) = a1
    ·rw [if_pos c8] at H
     have c8b0 : ((bt x0_1 (ji4)) == a1) = true := beq_iff_eq.mpr c8
     have c8b1 : ((bt x0_1 (ji4)) != a1) = false := bne_eq_false_iff_eq.mpr c8
     clear c8
     have c9b0 := eq_true (of_decide_eq_true (by first | (with_reducible assumption) | assumption) : 0 ≤ (ji4))
     by_cases c10 : (ji4) ≤ (x0_1.size : Int)
     case neg => rw [if_neg c10] at H; cases H
     rw [if_pos c10] at H
     have c10b0 := eq_true c10
     have c10b1 : decide ((ji4) ≤ (x0_1.size : Int)) = true := decide_eq_true c10
     clear c10
     have H' := Aside0.mk H
     clear H
     have p7 : 0 ≤ ((ji4) : Int) := of_decide_eq_true (by first | (with_reducible assumption) | assumption)
     have q7 : (ji4) < (x0_1.size : Int) := of_decide_eq_true (by first | (with_reducible assumption) | assumption)
     have hx7 := bt_at x0_1 (ji4)
     replace p7 := eq_true p7
     replace q7 := eq_true q7
     go_wp2
     go_roundg k1
     case measure => have := HK1.out; omega
     case rel => exact ⟨(x0_1.extract 0 ((ji4) : Int).toNat), (by first | rfl | (simp; done) | (simp only [← hji4] <;> (first | rfl | simp)) | (simp [*]; done)), H', ⟨by have := HK1.out; omega⟩, by repeat (first | exact Drawn0.refl _ | apply Drawn0.step)⟩
    ·rw [if_neg c8] at H
     have c8b0 : ((bt x0_1 (ji4)) == a1) = false := beq_eq_false_iff_ne.mpr c8
     have c8b1 : ((bt x0_1 (ji4)) != a1) = true := bne_iff_ne.mpr c8
     obtain rfl := Option.some.inj H
     have p7 : 0 ≤ ((ji4) : Int) := of_decide_eq_true (by first | (with_reducible assumption) | assumption)
     have q7 : (ji4) < (x0_1.size : Int) := of_decide_eq_true (by first | (with_reducible assumption) | assumption)
     have hx7 := bt_at x0_1 (ji4)
     replace p7 := eq_true p7
     replace q7 := eq_true q7
     go_wp2
     go_ret
     exact ⟨by first | rfl | (simp; done) | (simp only [← hji4] <;> (first | rfl | simp)) | (simp [*]; done), by repeat (first | exact Drawn0.refl _ | apply Drawn0.step)⟩
   ·rw [if_neg c3] at H
    have c3b0 : decide (0 < (x0_1.size : Int)) = false := decide_eq_false c3
    have c3b1 : decide (0 < x0_1.size) = false := decide_eq_false (by omega)
    clear c3
    obtain rfl := Option.some.inj H
    go_wp2
    go_ret
    exact ⟨by first | rfl | (simp; done) | (simp [*]; done), by repeat (first | exact Drawn0.refl _ | apply Drawn0.step)⟩

-- NOT PRINTED: function 82 (strings_makeASCIISet)

-- NOT PRINTED: function 89 (strings_asciiSet_contains)

-- NOT PRINTED: function 83 (strings_trimLeftASCII)

-- NOT PRINTED: function 84 (strings_trimRightASCII)

-- NOT PRINTED: function 93 (utf8_decodeRuneInStringSlow)

-- NOT PRINTED: function 90 (utf8_DecodeRuneInString)

-- NOT PRINTED: function 101 (bytealg_IndexByteString)

-- NOT PRINTED: function 100 (stringslite_IndexByte)

-- NOT PRINTED: function 96 (strings_IndexByte)

/-! ### utf8_ValidRune: function 97 -/
def utf8_ValidRune.j0 : Nat → Int → Bool → Option (Bool)
 | 0, _, _ => none
 | k + 1, x0, x3 => if x3 = true then (some true) else (if 57343 < x0 then (if x0 ≤ 1114111 then (some true) else (some false)) else (some false))
def utf8_ValidRune.f (k : Nat) (a0 : Int) : Option (Bool) := if 0 ≤ a0 then (utf8_ValidRune.j0 k a0 (decide (a0 < 55296))) else (utf8_ValidRune.j0 k a0 false)
theorem utf8_ValidRune.mono_l : ∀ k, (∀ y0 y1, LeO (utf8_ValidRune.j0 k y0 y1) (utf8_ValidRune.j0 (k + 1) y0 y1))
 | 0 => fun _ _ r h => by simp [utf8_ValidRune.j0] at h
 | k + 1 => by
  have ih0 := utf8_ValidRune.mono_l k
  ·intro y0 y1
   unfold utf8_ValidRune.j0
   repeat' first
   | (with_reducible exact ih0 _ _)
   | (with_reducible exact LeO.refl _)
   | (with_reducible exact LeO.none _)
   | (with_reducible refine LeO.ite ?_ ?_)
   | (with_reducible refine LeO.bind ?_ (fun _ => ?_))
   | exact ih0 _ _
   | exact LeO.none _
   | refine LeO.ite ?_ ?_
   | refine LeO.bind ?_ (fun _ => ?_)
theorem utf8_ValidRune.mono : ∀ a0 k, LeO (utf8_ValidRune.f k a0) (utf8_ValidRune.f (k + 1) a0) := by
 intro a0 k
 have ih0 := utf8_ValidRune.mono_l k
 unfold utf8_ValidRune.f
 repeat' first
   | (with_reducible exact ih0 _ _)
   | (with_reducible exact LeO.refl _)
   | (with_reducible exact LeO.none _)
   | (with_reducible refine LeO.ite ?_ ?_)
   | (with_reducible refine LeO.bind ?_ (fun _ => ?_))
   | exact ih0 _ _
   | exact LeO.none _
   | refine LeO.ite ?_ ?_
   | refine LeO.bind ?_ (fun _ => ?_)
set_option maxHeartbeats 8000000 in
set_option maxRecDepth 100000 in
theorem utf8_ValidRune.calls (k : Nat) (a0 : Int) (r : Bool) (w : World) (h : utf8_ValidRune.f k a0 = some r) :
  Calls Tryd.prog 97 #[.int .i32 a0] w fun e w' => e = .returned (.bool r) ∧ Drawn0 w w' := by
 have H : (if 0 ≤ a0 then (utf8_ValidRune.j0 k a0 (decide (a0 < 55296))) else (utf8_ValidRune.j0 k a0 false)) = some r := h
 clear h
 have HC2 := Aside0.mk H
 clear H
 go_enter Tryd.func97, Tryd.ntmps97
 go_upto_region 1 with (fail)
 go_cut [3] (fun v3 wc => ∃ (kq : Nat) (x3_1 : Bool), v3 = .bool x3_1 ∧ Aside0 (utf8_ValidRune.j0 kq a0 x3_1 = some r) ∧ Aside0 (kq ≤ k) ∧ Drawn0 w wc)
 case first =>
  have H := HC2.out
  clear HC2
  by_cases c3 : 0 ≤ a0
  ·rw [if_pos c3] at H
   have c3b0 : decide (0 ≤ a0) = true := decide_eq_true c3
   clear c3
   (first | rw [c3b0] | (simp only [i64_w, i32_w]; rw [c3b0]) | skip)
   have H' := Aside0.mk H
   clear H
   go_wp2
   go_meet
   case rel => exact ⟨_, (decide (a0 < 55296)), (by first | rfl | (simp; done) | (simp [*]; done)), H', ⟨by first | omega | exact Nat.le_refl _⟩, by repeat (first | exact Drawn0.refl _ | apply Drawn0.step)⟩
  ·rw [if_neg c3] at H
   have c3b0 : decide (0 ≤ a0) = false := decide_eq_false c3
   clear c3
   (first | rw [c3b0] | (simp only [i64_w, i32_w]; rw [c3b0]) | skip)
   have H' := Aside0.mk H
   clear H
   go_wp2
   go_meet
   case rel => exact ⟨_, (false), (by first | rfl | (simp; done) | (simp [*]; done)), H', ⟨by first | omega | exact Nat.le_refl _⟩, by repeat (first | exact Drawn0.refl _ | apply Drawn0.step)⟩
 case rest =>
  clear HC2
  try clear p2
  try clear c3
  try clear c3b0
  obtain ⟨kq, x3_1, rfl, HA, HJ1, ⟨mc1, rfl⟩⟩ := hcut
  cases kq with
  | zero => exact absurd HA.out (by simp [utf8_ValidRune.j0])
  | succ kj1 =>
   have H := HA.out
   clear HA
   simp only [utf8_ValidRune.j0] at H
   by_cases c4 : x3_1 = true
   ·subst c4
    have H1 : (some true) = some r := by rw [if_pos rfl] at H; exact H
    clear H
    have H := H1
    clear H1
    obtain rfl := Option.some.inj H
    go_wp2
    go_ret
    exact ⟨by first | rfl | (simp; done) | (simp [*]; done), by repeat (first | exact Drawn0.refl _ | apply Drawn0.step)⟩
   ·replace c4 := Bool.eq_false_iff.mpr c4
    subst c4
    have H1 : (if 57343 < a0 then (if a0 ≤ 1114111 then (some true) else (some false)) else (some false)) = some r := by rw [if_neg (show ¬ (false = true) by decide)] at H; exact H
    clear H
    have H := H1
    clear H1
    by_cases c5 : 57343 < a0
    ·rw [if_pos c5] at H
     have c5b0 : decide (57343 < a0) = true := decide_eq_true c5
     clear c5
     by_cases c6 : a0 ≤ 1114111
     ·rw [if_pos c6] at H
      have c6b0 : decide (a0 ≤ 1114111) = true := decide_eq_true c6
      clear c6
      obtain rfl := Option.some.inj H
      go_wp2
      go_ret
      exact ⟨by first | rfl | (simp; done) | (simp [*]; done), by repeat (first | exact Drawn0.refl _ | apply Drawn0.step)⟩
     ·rw [if_neg c6] at H
      have c6b0 : decide (a0 ≤ 1114111) = false := decide_eq_false c6
      clear c6
      obtain rfl := Option.some.inj H
      go_wp2
      go_ret
      exact ⟨by first | rfl | (simp; done) | (simp [*]; done), by repeat (first | exact Drawn0.refl _ | apply Drawn0.step)⟩
    ·rw [if_neg c5] at H
     have c5b0 : decide (57343 < a0) = false := decide_eq_false c5
     clear c5
     obtain rfl := Option.some.inj H
     go_wp2
     go_ret
     exact ⟨by first | rfl | (simp; done) | (simp [*]; done), by repeat (first | exact Drawn0.refl _ | apply Drawn0.step)⟩

/-! ### bytealg_Cutover: function 98 -/
def bytealg_Cutover.f (a0 : Int) : Option (Int) := some (wrap64 (Int.tdiv (wrap64 (a0 + 16)) 8))
set_option maxHeartbeats 8000000 in
set_option maxRecDepth 100000 in
theorem bytealg_Cutover.calls (a0 : Int) (r : Int) (w : World) (h : bytealg_Cutover.f a0 = some r) :
  Calls Tryd.prog 98 #[.int .i64 a0] w fun e w' => e = .returned (.int .i64 r) ∧ Drawn0 w w' := by
 have H : (some (wrap64 (Int.tdiv (wrap64 (a0 + 16)) 8))) = some r := h
 clear h
 obtain rfl := Option.some.inj H
 go_enter Tryd.func98, Tryd.ntmps98
 go_wp2
 go_ret
 exact ⟨by first | rfl | (simp; done) | (simp [*]; done), by repeat (first | exact Drawn0.refl _ | apply Drawn0.step)⟩

-- NOT PRINTED: function 99 (bytealg_IndexString)

-- NOT PRINTED: function 94 (strings_IndexRune)

-- NOT PRINTED: function 91 (strings_ContainsRune)

-- NOT PRINTED: function 85 (strings_trimLeftUnicode)

/-! ### utf8_RuneStart: function 95 -/
def utf8_RuneStart.f (a0 : Int) : Option (Bool) := some ((Go.bits .and .u8 a0 192) != 128)
set_option maxHeartbeats 8000000 in
set_option maxRecDepth 100000 in
theorem utf8_RuneStart.calls (a0 : Int) (r : Bool) (w : World) (h : utf8_RuneStart.f a0 = some r) :
  Calls Tryd.prog 95 #[.int .u8 a0] w fun e w' => e = .returned (.bool r) ∧ Drawn0 w w' := by
 have H : (some ((Go.bits .and .u8 a0 192) != 128)) = some r := h
 clear h
 obtain rfl := Option.some.inj H
 go_enter Tryd.func95, Tryd.ntmps95
 go_wp2
 go_ret
 exact ⟨by first | rfl | (simp; done) | (simp [*]; done), by repeat (first | exact Drawn0.refl _ | apply Drawn0.step)⟩

-- NOT PRINTED: function 92 (utf8_DecodeLastRuneInString)

-- NOT PRINTED: function 86 (strings_trimRightUnicode)

-- NOT PRINTED: function 74 (strings_Trim)

/-! ### impl_isName: function 67 -/
def impl_isName.lay_ren : Go.Shelf.Ren := ⟨fun | 160 => 74 | 232 => 81 | 231 => 80 | 227 => 82 | 234 => 84 | 233 => 83 | 236 => 86 | 235 => 85 | 228 => 89 | 271 => 92 | 151 => 91 | 197 => 90 | 120 => 95 | 152 => 94 | 260 => 93 | 137 => 96 | 119 => 97 | 224 => 98 | 225 => 99 | 217 => 100 | 266 => 101 | n => n, fun | 9 => 9 | 4 => 4 | 3 => 3 | 5 => 5 | 117 => 117 | 116 => 116 | 0 => 0 | 124 => 120 | 21 => 21 | 105 => 123 | 46 => 112 | 119 => 129 | 139 => 132 | 138 => 131 | n => n, fun | 3 => 3 | 4 => 4 | n => n⟩
theorem impl_isName.lay : Go.Proofs.Lays.n160 Tryd.prog impl_isName.lay_ren := {
 mixed := by kernel_rfl
 f119 := Tryd.func97.trans (congrArg some (by kernel_rfl))
 f120 := Tryd.func95.trans (congrArg some (by kernel_rfl))
 f137 := Tryd.func96.trans (congrArg some (by kernel_rfl))
 f151 := Tryd.func91.trans (congrArg some (by kernel_rfl))
 f152 := Tryd.func94.trans (congrArg some (by kernel_rfl))
 f160 := Tryd.func74.trans (congrArg some (by kernel_rfl))
 f197 := Tryd.func90.trans (congrArg some (by kernel_rfl))
 f217 := Tryd.func100.trans (congrArg some (by kernel_rfl))
 f224 := Tryd.func98.trans (congrArg some (by kernel_rfl))
 f225 := Tryd.func99.trans (congrArg some (by kernel_rfl))
 f227 := Tryd.func82.trans (congrArg some (by kernel_rfl))
 f228 := Tryd.func89.trans (congrArg some (by kernel_rfl))
 f231 := Tryd.func80.trans (congrArg some (by kernel_rfl))
 f232 := Tryd.func81.trans (congrArg some (by kernel_rfl))
 f233 := Tryd.func83.trans (congrArg some (by kernel_rfl))
 f234 := Tryd.func84.trans (congrArg some (by kernel_rfl))
 f235 := Tryd.func85.trans (congrArg some (by kernel_rfl))
 f236 := Tryd.func86.trans (congrArg some (by kernel_rfl))
 f260 := Tryd.func93.trans (congrArg some (by kernel_rfl))
 f266 := Tryd.func101.trans (congrArg some (by kernel_rfl))
 f271 := Tryd.func92.trans (congrArg some (by kernel_rfl))
 t0 := Tryd.underlying0
 a0 := Tryd.isAgg0
 z0 := Tryd.sizeOf0
 v0 := Tryd.zeroValue0
 t3 := Tryd.underlying3
 a3 := Tryd.isAgg3
 z3 := Tryd.sizeOf3
 v3 := Tryd.zeroValue3
 t4 := Tryd.underlying4
 a4 := Tryd.isAgg4
 z4 := Tryd.sizeOf4
 v4 := Tryd.zeroValue4
 t5 := Tryd.underlying5
 a5 := Tryd.isAgg5
 z5 := Tryd.sizeOf5
 v5 := Tryd.zeroValue5
 t9 := Tryd.underlying9
 a9 := Tryd.isAgg9
 z9 := Tryd.sizeOf9
 v9 := Tryd.zeroValue9
 t21 := Tryd.underlying21
 a21 := Tryd.isAgg21
 z21 := Tryd.sizeOf21
 v21 := Tryd.zeroValue21
 t46 := Tryd.underlying112
 a46 := Tryd.isAgg112
 z46 := Tryd.sizeOf112
 v46 := Tryd.zeroValue112
 t105 := Tryd.underlying123
 a105 := Tryd.isAgg123
 z105 := Tryd.sizeOf123
 v105 := Tryd.zeroValue123
 t116 := Tryd.underlying116
 a116 := Tryd.isAgg116
 z116 := Tryd.sizeOf116
 t117 := Tryd.underlying117
 a117 := Tryd.isAgg117
 z117 := Tryd.sizeOf117
 v117 := Tryd.zeroValue117
 t119 := Tryd.underlying129
 a119 := Tryd.isAgg129
 z119 := Tryd.sizeOf129
 t124 := Tryd.underlying120
 a124 := Tryd.isAgg120
 z124 := Tryd.sizeOf120
 v124 := Tryd.zeroValue120
 t138 := Tryd.underlying131
 a138 := Tryd.isAgg131
 z138 := Tryd.sizeOf131
 v138 := Tryd.zeroValue131
 t139 := Tryd.underlying132
 a139 := Tryd.isAgg132
 z139 := Tryd.sizeOf132
 v139 := Tryd.zeroValue132
 g3 := by kernel_rfl
 g4 := by kernel_rfl }

def impl_isName.f (a0 : ByteArray) : Option (Bool) := some (nameB a0)
theorem impl_isName.within_eq (a lo hi : Int) : impl_within.f a lo hi = some (decide (lo ≤ a) && decide (a ≤ hi)) := by
 unfold impl_within.f
 by_cases h : a ≥ lo
 ·rw [if_pos h]; simp [h]
 ·rw [if_neg h]; simp [h]
set_option maxHeartbeats 4000000 in
theorem impl_isName.calls (a0 : ByteArray) (r : Bool) (w : World) (h : impl_isName.f a0 = some r) :
  Calls Tryd.prog 67 #[.string a0] w fun e w' => e = .returned (.bool r) ∧ Below w.heap.size w w' := by
 obtain rfl := Option.some.inj h
 clear h
 unfold nameB
 have HW := A_ (impl_isName.within_eq (a0.size : Int) 1 8)
 cases hg : (decide (1 ≤ (a0.size : Int)) && decide ((a0.size : Int) ≤ 8)) with
 | false =>
  rw [hg] at HW
  clear hg
  go_enter Tryd.func67, Tryd.ntmps67
  go_wp2_with (go_at_call 61; refine (impl_within.calls _ _ _ false _ HW.out).mono ?_; rintro e w' ⟨rfl, ⟨nd, rfl⟩⟩)
  go_ret
  exact ⟨by first | rfl | simp, pw_below_drewN (Below.refl _ w) _⟩
 | true =>
  have hs : a0.size ≤ 8 := by
   rw [Bool.and_eq_true, decide_eq_true_eq, decide_eq_true_eq] at hg
   omega
  rw [hg] at HW
  clear hg
  have HT := A_ (fun W : World => Any.strings_Trim_laid impl_isName.lay (by kernel_rfl) a0 ⟨#[97, 98, 99, 100, 101, 102, 103, 104, 105, 106, 107, 108, 109, 110, 111, 112, 113, 114, 115, 116, 117, 118, 119, 120, 121, 122]⟩ W (by omega) (by decide) (ascii_of_all (by decide)))
  have hc : (⟨#[97, 98, 99, 100, 101, 102, 103, 104, 105, 106, 107, 108, 109, 110, 111, 112, 113, 114, 115, 116, 117, 118, 119, 120, 121, 122]⟩ : ByteArray).data.toList = azCut := rfl
  rw [hc] at HT
  generalize Lib.trimS a0.data.toList azCut = T at HT ⊢
  cases T with
  | nil =>
   go_enter Tryd.func67, Tryd.ntmps67
   go_wp2_with (first | (go_at_call 61; refine (impl_within.calls _ _ _ true _ HW.out).mono ?_; rintro e w' ⟨rfl, ⟨nd, rfl⟩⟩) | (go_at_call 74; refine (HT.out _).mono ?_; rintro e w' ⟨rfl, hb⟩; have HB := Aside0.mk hb; clear hb))
   go_ret
   exact ⟨by first | rfl | simp, (pw_below_drewN (Below.refl _ w) _).trans HB.out⟩
  | cons x T =>
   have hne : ¬ ((⟨(x :: T).toArray⟩ : ByteArray) = ⟨#[]⟩) := fun e => by
    have := congrArg (fun b : ByteArray => b.data.toList.length) e
    simp at this
   have h1 : decide ((⟨(x :: T).toArray⟩ : ByteArray) = ⟨#[]⟩) = false := decide_eq_false hne
   have h2 : ((⟨(x :: T).toArray⟩ : ByteArray) = ⟨#[]⟩) = False := eq_false hne
   go_enter Tryd.func67, Tryd.ntmps67
   go_wp2_with (first | (go_at_call 61; refine (impl_within.calls _ _ _ true _ HW.out).mono ?_; rintro e w' ⟨rfl, ⟨nd, rfl⟩⟩) | (go_at_call 74; refine (HT.out _).mono ?_; rintro e w' ⟨rfl, hb⟩; have HB := Aside0.mk hb; clear hb))
   go_ret
   exact ⟨by first | rfl | simp, (pw_below_drewN (Below.refl _ w) _).trans HB.out⟩

/-! ### impl_Good_62: function 62 -/
set_option maxHeartbeats 4000000 in
theorem impl_Good_62.any (A0 : Option Addr) (c0 : Nat) (l0 : List (S61)) (p : S61 → Bool) (g : Nat) (lb : Array Value) (eg : ∀ args w, (callFunc g args).run Tryd.prog w = .ok (.enter g args) w) (w : World) (hr0 : Kd.C k61 w A0 l0.length l0)
  (hp : ∀ x, x ∈ l0 → PredB Tryd.prog g lb #[.agg #[.string ((x).f0), .int .i64 ((x).f1)]] (p x) w) :
  Calls Tryd.prog 62 #[.slice A0 l0.length c0, .func (.func g) #[] lb] w fun e w' => e = .returned (.int .i64 (idxP p l0)) ∧ Below w.heap.size w w' := by
 have HR0 := Aside0.mk hr0
 have HP := Aside0.mk hp
 clear hr0 hp
 go_enter Tryd.func62, Tryd.ntmps62
 go_wp2
 go_loopg [5, 8] l0.length (fun gk _ v8 w' => ∃ x8 : Int, v8 = .int .i64 x8 ∧ Aside0 (0 ≤ x8 ∧ x8 ≤ l0.length ∧ (l0.length : Int) - x8 ≤ gk) ∧ Aside0 (Below w.heap.size w w') ∧ Aside0 (∀ j, j < x8.toNat → p (l0.getD j z61) = false))
 case atStart => exact ⟨0, rfl, ⟨by omega, by omega, by omega⟩, ⟨Below.refl _ _⟩, ⟨fun j hj => absurd hj (Nat.not_lt_zero _)⟩⟩
 case round =>
  obtain ⟨x8, rfl, HI, HB, HJ⟩ := hrel
  by_cases c : x8 < (l0.length : Int)
  ·have cb : decide (x8 < (l0.length : Int)) = true := decide_eq_true c
   have CC := Aside0.mk c
   obtain ⟨ad, e, hx_0, hx_1⟩ := at_T61 HR0.out x8 HI.out.1 c
   cases e
   replace hx_0 := (HB.out.cell (World.block_lt_of_cell? w _ hx_0)).trans hx_0
   replace hx_1 := (HB.out.cell (World.block_lt_of_cell? w _ hx_1)).trans hx_1
   have p0 := eq_true HI.out.1
   have q0 := eq_true c
   have p1 : decide (0 ≤ x8) = true := decide_eq_true HI.out.1
   have hcall := HP.out (rd_T61 l0 x8) (getD_mem z61 (by have := HI.out; omega)) wr HB.out
   skip
   clear c
   cases hq : p (rd_T61 l0 x8) with
   | true =>
    have HQ := Aside0.mk hq
    rw [hq] at hcall
    clear hq
    go_wp2_with (go_at_fn g; refine hcall.mono ?_; rintro e w' ⟨rfl, hb'⟩)
    go_ret
    refine ⟨?_, hb'⟩
    have h1 := HI.out
    have h2 := CC.out
    rw [idxP_hit (k := x8.toNat) z61 (by omega) HQ.out HJ.out, Int.toNat_of_nonneg h1.1]
    rfl
   | false =>
    have HQ := Aside0.mk hq
    rw [hq] at hcall
    clear hq
    go_wp2_with (go_at_fn g; refine hcall.mono ?_; rintro e w' ⟨rfl, hb'⟩)
    go_roundg (l0.length - (x8.toNat + 1))
    case measure => have h1 := HI.out; have h2 := CC.out; omega
    case rel =>
     have h1 := HI.out
     have h2 := CC.out
     refine ⟨x8 + 1, ?_, ⟨by omega, by omega, by omega⟩, ⟨hb'⟩, ⟨fun j hj => ?_⟩⟩
     ·first | rfl | rw [wrap_up h1.1 h2 (Kd.C_max HR0.out)]
     ·by_cases e : j = x8.toNat
      ·subst e; exact HQ.out
      ·exact HJ.out j (by omega)
  ·have cb : decide (x8 < (l0.length : Int)) = false := decide_eq_false c
   have CC := Aside0.mk c
   clear c
   go_wp2
   go_ret
   refine ⟨?_, HB.out⟩
   have h1 := HI.out
   have h2 := CC.out
   rw [idxP_miss z61 (fun j hj => HJ.out j (by omega))]
   rfl

/-! ### impl_Good_68: function 68 -/
theorem impl_Good_68.any (A0 : Option Addr) (c0 : Nat) (l0 : List (S61)) (p : S61 → Bool) (g : Nat) (lb : Array Value) (eg : ∀ args w, (callFunc g args).run Tryd.prog w = .ok (.enter g args) w) (w : World) (hr0 : Kd.C k61 w A0 l0.length l0)
  (hp : ∀ x, x ∈ l0 → PredB Tryd.prog g lb #[.agg #[.string ((x).f0), .int .i64 ((x).f1)]] (p x) w) :
  Calls Tryd.prog 68 #[.slice A0 l0.length c0, .func (.func g) #[] lb] w fun e w' => e = .returned (.bool (l0.any p)) ∧ Below w.heap.size w w' := by
 have HI := A_ (impl_Good_62.any A0 c0 l0 p g lb eg w hr0 hp)
 rw [← idxP_any]
 generalize idxP p l0 = r at HI ⊢
 clear hr0 hp
 go_enter Tryd.func68, Tryd.ntmps68
 go_wp2_with (go_at_call 62; refine HI.out.mono ?_; rintro e w' ⟨rfl, hb'⟩)
 go_ret
 exact ⟨by first | rfl | simp, hb'⟩

/-! ### impl_GoodGoods: function 60 -/
def impl_GoodGoods.p (g x : S61) : Bool := x.f0.toList == g.f0.toList
def impl_GoodGoods.go : List (S61) → List (S61) → Bool
 | _, [] => true
 | pre, g :: suf => (nameB g.f0 && (decide (1 ≤ g.f1) && decide (g.f1 ≤ 100)) && !(pre.any (impl_GoodGoods.p g))) && impl_GoodGoods.go (pre ++ [g]) suf
def impl_GoodGoods.f (l0 : List (S61)) : Option (Bool) := some (impl_GoodGoods.go [] l0 && decide ((l0.length : Int) ≤ 12))
theorem impl_GoodGoods.within_eq (a lo hi : Int) : impl_within.f a lo hi = some (decide (lo ≤ a) && decide (a ≤ hi)) := by
 unfold impl_within.f
 by_cases h : a ≥ lo
 ·rw [if_pos h]; simp [h]
 ·rw [if_neg h]; simp [h]
theorem impl_GoodGoods.clo (g x : S61) (b : Nat) (w : World) (hb : b < w.heap.size) (hk : w.cell? ⟨b, 0, none⟩ = some (.string g.f0)) : PredB Tryd.prog 69 #[.pointer (some ⟨b, 0, none⟩)] #[.agg #[.string x.f0, .int .i64 x.f1]] (impl_GoodGoods.p g x) w := fun W hB => by
 have k0 : W.cell? ⟨b, 0, none⟩ = some (.string g.f0) := (hB.cell (p := ⟨b, 0, none⟩) hb).trans hk
 have k1 : (W.alloc (.cells #[.string x.f0, .int .i64 x.f1] 61)).cell? ⟨b, 0, none⟩ = some (.string g.f0) := ((below_alloc (Below.refl _ W) _).cell (p := ⟨b, 0, none⟩) (by have := hB.size; show b < W.heap.size; omega)).trans k0
 have HB := Aside0.mk hB
 clear hk hB k0
 show Calls Tryd.prog 69 #[.agg #[.string x.f0, .int .i64 x.f1], .pointer (some ⟨b, 0, none⟩)] W _
 have hu := Tryd.underlying61
 go_enter Tryd.func69, Tryd.ntmps69
 go_wp2
 go_ret
 exact ⟨by first | rfl | simp [impl_GoodGoods.p], by have := HB.out; exact this.alloc this.size _⟩
set_option maxHeartbeats 4000000 in
set_option maxRecDepth 100000 in
theorem impl_GoodGoods.calls (A0 : Option Addr) (c0 : Nat) (l0 : List (S61)) (r : Bool) (w : World) (hr0 : Kd.C k61 w A0 l0.length l0) (hc0 : l0.length ≤ c0) (h : impl_GoodGoods.f l0 = some r) :
  Calls Tryd.prog 60 #[.slice A0 l0.length c0] w fun e w' => e = .returned (.bool r) ∧ Below w.heap.size w w' := by
 obtain rfl := Option.some.inj h
 clear h
 have HR0 := Aside0.mk hr0
 have HC0 := Aside0.mk hc0
 have HM := A_ (Kd.C_max hr0)
 clear hr0 hc0
 have eg : ∀ args w, (callFunc 69 args).run Tryd.prog w = .ok (.enter 69 args) w := enters_of Tryd.func69 (by kernel_rfl) rfl
 have EG := Aside0.mk eg
 clear eg
 have hu := Tryd.underlying61
 go_enter Tryd.func60, Tryd.ntmps60
 go_wp2
 go_loopg [7] l0.length (fun gk v7 w' => ∃ (pre suf : List (S61)), v7 = .int .i64 (pre.length : Int) ∧ Aside0 (l0 = pre ++ suf ∧ suf.length ≤ gk) ∧ Aside0 (impl_GoodGoods.go [] l0 = impl_GoodGoods.go pre suf) ∧ Aside0 (Below w.heap.size w w'))
 case atStart => exact ⟨[], l0, rfl, ⟨rfl, Nat.le_refl _⟩, ⟨rfl⟩, ⟨Below.refl _ _⟩⟩
 case round =>
  obtain ⟨pre, suf, rfl, HE, HG, HB⟩ := hrel
  cases suf with
  | nil =>
   have hl : l0.length = pre.length := by rw [HE.out.1]; simp
   have d1 : decide ((pre.length : Int) < (l0.length : Int)) = false := decide_eq_false (by omega)
   have d2 : ((pre.length : Int) < (l0.length : Int)) = False := eq_false (by omega)
   have d3 : decide (pre.length < l0.length) = false := decide_eq_false (by omega)
   have d4 : (pre.length < l0.length) = False := eq_false (by omega)
   have HL := Aside0.mk hl
   clear hl
   go_wp2
   go_ret
   exact ⟨by rw [HG.out, impl_GoodGoods.go, Bool.true_and]; rfl, HB.out⟩
  | cons g suf =>
   have hl : l0.length = pre.length + suf.length + 1 := by rw [HE.out.1]; simp; omega
   have d1 : decide ((pre.length : Int) < (l0.length : Int)) = true := decide_eq_true (by omega)
   have d2 : ((pre.length : Int) < (l0.length : Int)) = True := eq_true (by omega)
   have d3 : decide (pre.length < l0.length) = true := decide_eq_true (by omega)
   have d4 : (pre.length < l0.length) = True := eq_true (by omega)
   have d5 : (0 ≤ (pre.length : Int)) = True := eq_true (by omega)
   have h0_ : 0 ≤ (pre.length : Int) := by omega
   have h1_ : (pre.length : Int) < (l0.length : Int) := by omega
   obtain ⟨ad, e, hx_0, hx_1⟩ := at_T61 HR0.out (pre.length : Int) h0_ h1_
   cases e
   replace hx_0 := (HB.out.cell (World.block_lt_of_cell? w _ hx_0)).trans hx_0
   replace hx_1 := (HB.out.cell (World.block_lt_of_cell? w _ hx_1)).trans hx_1
   have hgx : rd_T61 l0 (pre.length : Int) = g := by
    show l0.getD (pre.length : Int).toNat _ = g
    rw [HE.out.1]
    simp
   rw [hgx] at hx_0 hx_1
   simp only [Int.toNat_natCast] at hx_0 hx_1
   have HLEN := Aside0.mk hl
   clear hgx h0_ h1_ hl
   go_wp2_with ((with_reducible refine gate_dst (N := 4) rfl ?_); refine box_event ?hg (N := 4) ?hd (cs := #[.string ByteArray.empty, .int .i64 0]) (t := 61) ?hr ?_; (case hd => rfl); (case hg => rfl); (case hr => first | (go_simp; done) | (go_simp; rfl)); intro gb hgb wb hbox hb; have HBW := A_ (below_step HB.out hb); have HGB := A_ (show wr.heap.size ≤ gb from by rw [hgb]; exact Nat.le_refl _); have hz0 : wb.cell? ⟨gb, 0, none⟩ = some (.string ByteArray.empty) := (blk_cell hbox 0).trans rfl; have hz1 : wb.cell? ⟨gb, 1, none⟩ = some (.int .i64 0) := (blk_cell hbox 1).trans rfl; have hf0 := blk_frozen hbox 0; have hf1 := blk_frozen hbox 1; have HBK := Aside0.mk hbox; clear hbox hb hgb)
   have hge : w.heap.size ≤ gb := Nat.le_trans HB.out.size HGB.out
   have HGE := Aside0.mk hge
   clear hge
   obtain ⟨ws, hws⟩ : ∃ ws, ws = (wb.setCell ⟨gb, 0, none⟩ (.string g.f0)).setCell ⟨gb, 1, none⟩ (.int .i64 g.f1) := ⟨_, rfl⟩
   rw [← hws]
   have HBS := A_ (show Below w.heap.size w ws by rw [hws]; exact below_set (below_set HBW.out HGE.out) HGE.out)
   have HBK2 := A_ (show ws.heap[gb]? = some (.cells #[.string g.f0, .int .i64 g.f1] 61 (0, 0)) by rw [hws, blk_set (blk_set HBK.out 0 (.string g.f0)) 1 (.int .i64 g.f1)]; rfl)
   clear hws hz0 hz1 hf0 hf1 hx_0 hx_1 HBW HBK
   go_at_call 67
   refine (impl_isName.calls g.f0 (nameB g.f0) ws rfl).mono ?_
   rintro e w2 ⟨rfl, hb2⟩
   have HB2 := A_ (show Below w.heap.size w w2 from HBS.out.trans (hb2.mono HBS.out.size))
   have HBK3 := A_ (blk_below HBK2.out hb2)
   have k0 : w2.cell? ⟨gb, 0, none⟩ = some (.string g.f0) := (blk_cell HBK3.out 0).trans rfl
   have k1 : w2.cell? ⟨gb, 1, none⟩ = some (.int .i64 g.f1) := (blk_cell HBK3.out 1).trans rfl
   clear HBS HBK2 hb2
   cases hn : nameB g.f0 with
   | false =>
    have HN := Aside0.mk hn
    clear hn
    go_wp2_with fail
    go_ret
    exact ⟨by rw [HG.out, impl_GoodGoods.go, HN.out]; simp, HB2.out⟩
   | true =>
    have HN := Aside0.mk hn
    clear hn
    go_wp2_with fail
    have HWI := A_ (impl_GoodGoods.within_eq g.f1 1 100)
    cases hw : (decide (1 ≤ g.f1) && decide (g.f1 ≤ 100)) with
    | false =>
     rw [hw] at HWI
     have HV := Aside0.mk hw
     clear hw
     go_at_call 61
     refine (impl_within.calls _ _ _ false _ HWI.out).mono ?_
     rintro e w' ⟨rfl, ⟨nd, rfl⟩⟩
     go_wp2_with fail
     go_ret
     exact ⟨by rw [HG.out, impl_GoodGoods.go, HN.out, HV.out]; simp, pw_below_drewN HB2.out _⟩
    | true =>
     rw [hw] at HWI
     have HV := Aside0.mk hw
     clear hw
     have ht : l0.take pre.length = pre := by rw [HE.out.1]; simp
     have hct := Kd.C_take (m := pre.length) (Kd.C_below HR0.out HB2.out) (by have := HLEN.out; omega)
     rw [ht] at hct
     have HCT := Aside0.mk hct
     clear hct ht
     have c1 : decide ((pre.length : Int) ≤ (c0 : Int)) = true := decide_eq_true (by have := HLEN.out; have := HC0.out; omega)
     have c2 : ((pre.length : Int) ≤ (c0 : Int)) = True := eq_true (by have := HLEN.out; have := HC0.out; omega)
     have c3 : pre.length ≤ c0 := by have := HLEN.out; have := HC0.out; omega
     have c4 : decide (0 ≤ (pre.length : Int)) = true := decide_eq_true (by omega)
     go_at_call 61
     refine (impl_within.calls _ _ _ true _ HWI.out).mono ?_
     rintro e w' ⟨rfl, ⟨nd, rfl⟩⟩
     go_wp2_with fail
     go_at_call 68
     refine (impl_Good_68.any (some ad) c0 pre (impl_GoodGoods.p g) 69 #[.pointer (some ⟨gb, 0, none⟩)] EG.out (w2.drewN nd) (Kd.C_drewN HCT.out nd) (fun x _ => impl_GoodGoods.clo g x gb (w2.drewN nd) (blk_lt HBK3.out) k0)).mono ?_
     rintro e w3 ⟨rfl, hb3⟩
     have HB3 := A_ (show Below w.heap.size w w3 from (pw_below_drewN HB2.out nd).trans (hb3.mono HB2.out.size))
     clear hb3
     cases ha : pre.any (impl_GoodGoods.p g) with
     | true =>
      have HA := Aside0.mk ha
      clear ha
      go_wp2_with fail
      go_ret
      exact ⟨by rw [HG.out, impl_GoodGoods.go, HN.out, HV.out, HA.out]; simp, HB3.out⟩
     | false =>
      have HA := Aside0.mk ha
      clear ha
      go_wp2_with fail
      go_roundg suf.length
      case measure => have := HE.out.2; simp at this; omega
      case rel =>
       refine ⟨pre ++ [g], suf, by first | rfl | (congr 1; have := HLEN.out; have := HM.out; rw [List.length_append, List.length_singleton]; unfold wrap64; omega), ⟨by rw [HE.out.1]; simp, Nat.le_refl _⟩, ⟨?_⟩, HB3⟩
       rw [HG.out, impl_GoodGoods.go, HN.out, HV.out, HA.out]
       simp

end Go.Proofs.YtabpgjejedjliaaDoor.GLJoinSheets
