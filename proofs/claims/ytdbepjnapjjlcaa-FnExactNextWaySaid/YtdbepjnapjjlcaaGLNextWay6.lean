-- Written by a program of this session (gprint.py), over the kit's print: not trusted: Lean checks it.
import Derived.Test.YtdbepjnapjjlcaaGLNextWay0
namespace Go.Proofs.Ytdbepjnapjjlcaa.GLNextWay
open Go.RowKit Go.Proofs.YtdbepjnapjjlcaaW.PrintWords Go.Proofs.YtdbepjnapjjlcaaW.PrintLast Go.Proofs.YtdbepjnapjjlcaaW.PrintMore Go.Proofs.YtdbepjnapjjlcaaW.PrintOwn
attribute [local go_sem] max2_int min2_int max_two min_two max_three min_three max_four min_four   -- for this text's walks alone
set_option linter.unusedVariables false
set_option linter.unusedSimpArgs false

/-! ### impl_room: function 51 -/
def impl_room.f (l0 : List (List Int)) (l1 : List (List Int)) (a2 : Int) (a3 : Int) : Option (Int) := if 0 ≤ a2 then (if a2 < (l0.length : Int) then (if 0 ≤ a3 then (if a3 < ((rd_L1 l0 a2).length : Int) then (if a2 < (l1.length : Int) then (if a3 < ((rd_L1 l1 a2).length : Int) then (if a3 < (l1.length : Int) then (if a2 < ((rd_L1 l1 a3).length : Int) then (some (wrap64 ((wrap64 ((rd (rd_L1 l0 a2) a3) - (rd (rd_L1 l1 a2) a3))) + (rd (rd_L1 l1 a3) a2)))) else (none)) else (none)) else (none)) else (none)) else (none)) else (none)) else (none)) else (none)
set_option maxHeartbeats 8000000 in
set_option maxRecDepth 100000 in
theorem impl_room.calls (A0 : Option Addr) (c0 : Nat) (l0 : List (List Int)) (A1 : Option Addr) (c1 : Nat) (l1 : List (List Int)) (a2 : Int) (a3 : Int) (r : Int) (w : World) (hr0 : Kd.C (Kd.slice 3 (Kd.int .i64)) w A0 l0.length l0) (hc0 : l0.length ≤ c0) (hr1 : Kd.C (Kd.slice 3 (Kd.int .i64)) w A1 l1.length l1) (hc1 : l1.length ≤ c1) (h : impl_room.f l0 l1 a2 a3 = some r) :
    Calls Try.prog 51 #[.slice A0 l0.length c0, .slice A1 l1.length c1, .int .i64 a2, .int .i64 a3] w fun e w' => e = .returned (.int .i64 r) ∧ Drawn0 w w' := by
  have HR0 := Aside0.mk hr0
  have HC0 := Aside0.mk hc0
  clear hr0 hc0
  have HR1 := Aside0.mk hr1
  have HC1 := Aside0.mk hc1
  clear hr1 hc1
  have H : (if 0 ≤ a2 then (if a2 < (l0.length : Int) then (if 0 ≤ a3 then (if a3 < ((rd_L1 l0 a2).length : Int) then (if a2 < (l1.length : Int) then (if a3 < ((rd_L1 l1 a2).length : Int) then (if a3 < (l1.length : Int) then (if a2 < ((rd_L1 l1 a3).length : Int) then (some (wrap64 ((wrap64 ((rd (rd_L1 l0 a2) a3) - (rd (rd_L1 l1 a2) a3))) + (rd (rd_L1 l1 a3) a2)))) else (none)) else (none)) else (none)) else (none)) else (none)) else (none)) else (none)) else (none)) = some r := h
  clear h
  by_cases c5 : 0 ≤ a2
  · rw [if_pos c5] at H
    have c5b0 : decide (0 ≤ a2) = true := decide_eq_true c5
    clear c5
    by_cases c6 : a2 < (l0.length : Int)
    · rw [if_pos c6] at H
      have c6b0 : decide (a2 < (l0.length : Int)) = true := decide_eq_true c6
      clear c6
      by_cases c7 : 0 ≤ a3
      · rw [if_pos c7] at H
        have c7b0 : decide (0 ≤ a3) = true := decide_eq_true c7
        clear c7
        by_cases c8 : a3 < ((rd_L1 l0 a2).length : Int)
        · rw [if_pos c8] at H
          have c8b0 : decide (a3 < ((rd_L1 l0 a2).length : Int)) = true := decide_eq_true c8
          clear c8
          by_cases c9 : a2 < (l1.length : Int)
          · rw [if_pos c9] at H
            have c9b0 : decide (a2 < (l1.length : Int)) = true := decide_eq_true c9
            clear c9
            by_cases c10 : a3 < ((rd_L1 l1 a2).length : Int)
            · rw [if_pos c10] at H
              have c10b0 : decide (a3 < ((rd_L1 l1 a2).length : Int)) = true := decide_eq_true c10
              clear c10
              by_cases c11 : a3 < (l1.length : Int)
              · rw [if_pos c11] at H
                have c11b0 : decide (a3 < (l1.length : Int)) = true := decide_eq_true c11
                clear c11
                by_cases c12 : a2 < ((rd_L1 l1 a3).length : Int)
                · rw [if_pos c12] at H
                  have c12b0 : decide (a2 < ((rd_L1 l1 a3).length : Int)) = true := decide_eq_true c12
                  clear c12
                  obtain rfl := Option.some.inj H
                  have p194 : 0 ≤ (a2 : Int) := of_decide_eq_true (by first | (with_reducible assumption) | assumption)
                  have q194 : a2 < (l0.length : Int) := of_decide_eq_true (by first | (with_reducible assumption) | assumption)
                  obtain ⟨ad194, A194_0, c194_0, e194, hx194_0, hl194_0, hi194_0⟩ := at_L1 HR0.out a2 p194 q194
                  cases e194
                  have HR194_0 := Aside0.mk hi194_0
                  have HC194_0 := Aside0.mk hl194_0
                  clear hi194_0 hl194_0
                  replace p194 := eq_true p194
                  replace q194 := eq_true q194
                  have p195 : 0 ≤ (a3 : Int) := of_decide_eq_true (by first | (with_reducible assumption) | assumption)
                  have q195 : a3 < ((rd_L1 l0 a2).length : Int) := of_decide_eq_true (by first | (with_reducible assumption) | assumption)
                  obtain ⟨ad195, e195, hx195_0⟩ := Kd.at_int HR194_0.out a3 p195 q195
                  cases e195
                  replace p195 := eq_true p195
                  replace q195 := eq_true q195
                  have p196 : 0 ≤ (a2 : Int) := of_decide_eq_true (by first | (with_reducible assumption) | assumption)
                  have q196 : a2 < (l1.length : Int) := of_decide_eq_true (by first | (with_reducible assumption) | assumption)
                  obtain ⟨ad196, A196_0, c196_0, e196, hx196_0, hl196_0, hi196_0⟩ := at_L1 HR1.out a2 p196 q196
                  cases e196
                  have HR196_0 := Aside0.mk hi196_0
                  have HC196_0 := Aside0.mk hl196_0
                  clear hi196_0 hl196_0
                  replace p196 := eq_true p196
                  replace q196 := eq_true q196
                  have p197 : 0 ≤ (a3 : Int) := of_decide_eq_true (by first | (with_reducible assumption) | assumption)
                  have q197 : a3 < ((rd_L1 l1 a2).length : Int) := of_decide_eq_true (by first | (with_reducible assumption) | assumption)
                  obtain ⟨ad197, e197, hx197_0⟩ := Kd.at_int HR196_0.out a3 p197 q197
                  cases e197
                  replace p197 := eq_true p197
                  replace q197 := eq_true q197
                  have p198 : 0 ≤ (a3 : Int) := of_decide_eq_true (by first | (with_reducible assumption) | assumption)
                  have q198 : a3 < (l1.length : Int) := of_decide_eq_true (by first | (with_reducible assumption) | assumption)
                  obtain ⟨ad198, A198_0, c198_0, e198, hx198_0, hl198_0, hi198_0⟩ := at_L1 HR1.out a3 p198 q198
                  obtain rfl : ad196 = ad198 := (by injection e198)
                  have HR198_0 := Aside0.mk hi198_0
                  have HC198_0 := Aside0.mk hl198_0
                  clear hi198_0 hl198_0
                  replace p198 := eq_true p198
                  replace q198 := eq_true q198
                  have p199 : 0 ≤ (a2 : Int) := of_decide_eq_true (by first | (with_reducible assumption) | assumption)
                  have q199 : a2 < ((rd_L1 l1 a3).length : Int) := of_decide_eq_true (by first | (with_reducible assumption) | assumption)
                  obtain ⟨ad199, e199, hx199_0⟩ := Kd.at_int HR198_0.out a2 p199 q199
                  cases e199
                  replace p199 := eq_true p199
                  replace q199 := eq_true q199
                  go_enter Try.func51, Try.ntmps51
                  go_wp2
                  repeat (go_quiet (fail); try go_wp2)
                  go_ret
                  exact ⟨by first | rfl | (simp; done) | (simp [*]; done), by repeat (first | exact Drawn0.refl _ | apply Drawn0.step)⟩
                · rw [if_neg c12] at H
                  exact absurd H (by simp)
              · rw [if_neg c11] at H
                exact absurd H (by simp)
            · rw [if_neg c10] at H
              exact absurd H (by simp)
          · rw [if_neg c9] at H
            exact absurd H (by simp)
        · rw [if_neg c8] at H
          exact absurd H (by simp)
      · rw [if_neg c7] at H
        exact absurd H (by simp)
    · rw [if_neg c6] at H
      exact absurd H (by simp)
  · rw [if_neg c5] at H
    exact absurd H (by simp)

/-! ### bits_Mul32: function 74 -/
def bits_Mul32.f (a0 : Int) (a1 : Int) : Option (Int × Int) := some (((IntKind.u64.wrap ((IntKind.u64.wrap (a0)) * (IntKind.u64.wrap (a1)))) / 4294967296) % 4294967296, (IntKind.u64.wrap ((IntKind.u64.wrap (a0)) * (IntKind.u64.wrap (a1)))) % 4294967296)
set_option maxHeartbeats 8000000 in
set_option maxRecDepth 100000 in
theorem bits_Mul32.calls (a0 : Int) (a1 : Int) (r1 : Int) (r2 : Int) (w : World) (h : bits_Mul32.f a0 a1 = some (r1, r2)) :
    Calls Try.prog 74 #[.int .u32 a0, .int .u32 a1] w fun e w' => e = .returned (.tuple #[.int .u32 r1, .int .u32 r2]) ∧ Drawn0 w w' := by
  have H : (some (((IntKind.u64.wrap ((IntKind.u64.wrap (a0)) * (IntKind.u64.wrap (a1)))) / 4294967296) % 4294967296, (IntKind.u64.wrap ((IntKind.u64.wrap (a0)) * (IntKind.u64.wrap (a1)))) % 4294967296)) = some (r1, r2) := h
  clear h
  simp only [Option.some.injEq, Prod.mk.injEq] at H
  obtain ⟨rfl, rfl⟩ := H
  go_enter Try.func74, Try.ntmps74
  go_wp2
  go_ret2
  exact ⟨by first | rfl | (simp; done) | (simp [*]; done), by repeat (first | exact Drawn0.refl _ | apply Drawn0.step)⟩

/-! ### bits_Mul64: function 75 -/
def bits_Mul64.f (a0 : Int) (a1 : Int) : Option (Int × Int) := some (IntKind.u64.wrap ((IntKind.u64.wrap ((IntKind.u64.wrap ((a0 / 4294967296) * (a1 / 4294967296))) + ((IntKind.u64.wrap ((IntKind.u64.wrap ((a0 / 4294967296) * (Go.bits .and .u64 a1 4294967295))) + ((IntKind.u64.wrap ((Go.bits .and .u64 a0 4294967295) * (Go.bits .and .u64 a1 4294967295))) / 4294967296))) / 4294967296))) + ((IntKind.u64.wrap ((Go.bits .and .u64 (IntKind.u64.wrap ((IntKind.u64.wrap ((a0 / 4294967296) * (Go.bits .and .u64 a1 4294967295))) + ((IntKind.u64.wrap ((Go.bits .and .u64 a0 4294967295) * (Go.bits .and .u64 a1 4294967295))) / 4294967296))) 4294967295) + (IntKind.u64.wrap ((Go.bits .and .u64 a0 4294967295) * (a1 / 4294967296))))) / 4294967296)), IntKind.u64.wrap (a0 * a1))
set_option maxHeartbeats 8000000 in
set_option maxRecDepth 100000 in
theorem bits_Mul64.calls (a0 : Int) (a1 : Int) (r1 : Int) (r2 : Int) (w : World) (h : bits_Mul64.f a0 a1 = some (r1, r2)) :
    Calls Try.prog 75 #[.int .u64 a0, .int .u64 a1] w fun e w' => e = .returned (.tuple #[.int .u64 r1, .int .u64 r2]) ∧ Drawn0 w w' := by
  have H : (some (IntKind.u64.wrap ((IntKind.u64.wrap ((IntKind.u64.wrap ((a0 / 4294967296) * (a1 / 4294967296))) + ((IntKind.u64.wrap ((IntKind.u64.wrap ((a0 / 4294967296) * (Go.bits .and .u64 a1 4294967295))) + ((IntKind.u64.wrap ((Go.bits .and .u64 a0 4294967295) * (Go.bits .and .u64 a1 4294967295))) / 4294967296))) / 4294967296))) + ((IntKind.u64.wrap ((Go.bits .and .u64 (IntKind.u64.wrap ((IntKind.u64.wrap ((a0 / 4294967296) * (Go.bits .and .u64 a1 4294967295))) + ((IntKind.u64.wrap ((Go.bits .and .u64 a0 4294967295) * (Go.bits .and .u64 a1 4294967295))) / 4294967296))) 4294967295) + (IntKind.u64.wrap ((Go.bits .and .u64 a0 4294967295) * (a1 / 4294967296))))) / 4294967296)), IntKind.u64.wrap (a0 * a1))) = some (r1, r2) := h
  clear h
  simp only [Option.some.injEq, Prod.mk.injEq] at H
  obtain ⟨rfl, rfl⟩ := H
  go_enter Try.func75, Try.ntmps75
  go_wp2
  go_ret2
  exact ⟨by first | rfl | (simp; done) | (simp [*]; done), by repeat (first | exact Drawn0.refl _ | apply Drawn0.step)⟩

/-! ### bits_Mul: function 73 -/
def bits_Mul.f (a0 : Int) (a1 : Int) : Option (Int × Int) := (bits_Mul64.f a0 a1).bind fun bt200 => (some (bt200.1, bt200.2))
set_option maxHeartbeats 8000000 in
set_option maxRecDepth 100000 in
theorem bits_Mul.calls (a0 : Int) (a1 : Int) (r1 : Int) (r2 : Int) (w : World) (h : bits_Mul.f a0 a1 = some (r1, r2)) :
    Calls Try.prog 73 #[.int .u64 a0, .int .u64 a1] w fun e w' => e = .returned (.tuple #[.int .u64 r1, .int .u64 r2]) ∧ Drawn0 w w' := by
  have H : ((bits_Mul64.f a0 a1).bind fun bt200 => (some (bt200.1, bt200.2))) = some (r1, r2) := h
  clear h
  replace H := Option.bind_eq_some_iff.mp H
  obtain ⟨⟨t200, t201⟩, A30, H⟩ := H
  replace H : (some (t200, t201)) = some (r1, r2) := H
  have A3 := Aside0.mk A30
  clear A30
  simp only [Option.some.injEq, Prod.mk.injEq] at H
  obtain ⟨rfl, rfl⟩ := H
  go_enter Try.func73, Try.ntmps73
  go_wp2_with (first | ((with_reducible refine gate_callee (f := 75) rfl ?_); refine goesL_ (some 25) rfl rfl Try.func75 (by kernel_rfl) rfl #[.int .u64 a0, .int .u64 a1] rfl (by (try simp only [List.map_toArray, List.map_cons, List.map_nil]); first | done | rfl | (simp only [List.length_drop, List.length_take]; rfl)) ?_; (with_reducible refine (bits_Mul64.calls a0 a1 t200 t201 _ A3.out).mono ?_); rintro e w' ⟨rfl, ⟨nd, rfl⟩⟩; refine ⟨_, rfl, ?_⟩))
  go_ret2
  exact ⟨by first | rfl | (simp; done) | (simp [*]; done), by repeat (first | exact Drawn0.refl _ | apply Drawn0.step)⟩

/-! ### slices_Repeat_int_int: function 70 -/
def slices_Repeat_int_int.f (l0 : List Int) (a1 : Int) : Option (List Int) := match l0 with
  | [x] => if 1 ≤ a1 ∧ a1 ≤ 1000000 then some (List.replicate a1.toNat x) else none
  | _ => none
theorem slices_Repeat_int_int.mul (N : Nat) (h : N ≤ 1000000) : bits_Mul.f 1 (N : Int) = some (0, (N : Int)) := by
  have e0 : (1 : Int) / 4294967296 = 0 := by decide
  have e1 : ((N : Int)) / 4294967296 = 0 := by omega
  have e2 : Go.bits .and .u64 1 4294967295 = 1 := by decide
  have wz : IntKind.u64.wrap 0 = 0 := by decide
  have wn : IntKind.u64.wrap (N : Int) = (N : Int) := by
    unfold IntKind.wrap
    simp [IntKind.bits, IntKind.signed]
    omega
  unfold bits_Mul.f bits_Mul64.f
  rw [e0, e1, e2]
  have eb : Go.bits .and .u64 (N : Int) 4294967295 = (N : Int) := by
    have h1 : (BitVec.ofInt 64 (N : Int)).toNat = N := by
      rw [BitVec.ofInt_natCast, BitVec.toNat_ofNat]
      exact Nat.mod_eq_of_lt (by omega)
    have h2 : (BitVec.ofInt 64 (4294967295 : Int)).toNat = 4294967295 := by decide
    show IntKind.u64.wrap ((BitVec.ofInt 64 (N : Int) &&& BitVec.ofInt 64 (4294967295 : Int)).toNat : Int) = _
    rw [BitVec.toNat_and, h1, h2, show (4294967295 : Nat) = 2 ^ 32 - 1 from rfl, Nat.and_two_pow_sub_one_eq_mod, Nat.mod_eq_of_lt (by omega)]
    exact wn
  have ez : Go.bits .and .u64 0 4294967295 = 0 := by decide
  have e3 : (0 : Int) / 4294967296 = 0 := by decide
  simp only [Int.zero_mul, Int.mul_zero, Int.one_mul, eb, wz, wn, e1, e3, ez, Int.zero_add, Int.add_zero, Option.bind_some]
theorem slices_Repeat_int_int.row {W : World} {base N : Nat} {ok : Nat → Prop} {v : Value} (h : (Kd.int .i64).R 3 W base ok v (List.replicate N 0)) (hN : 1 ≤ N) : ∃ (g cap : Nat) (cur : List Value), v = .slice (some ⟨g, 0, none⟩) N cap ∧ base ≤ g ∧ W.heap[g]? = some (.cells cur.toArray 3 (0, 0)) ∧ N ≤ cap ∧ cap ≤ maxLen ∧ cur.length = cap := by
  obtain ⟨_, ⟨_, hz⟩ | ⟨g, cap, cur, e, hb, hh, hle, hm, hs, _⟩⟩ := Kd.own_of_R h
  · simp at hz
    omega
  · refine ⟨g, cap, cur.toList, by rw [e]; simp, hb, by rw [hh], by simpa using hle, hm, by simpa using hs⟩
theorem slices_Repeat_int_int.unrow {W : World} {base N g cap : Nat} {x : Int} {cur : List Value} (hb : base ≤ g) (hh : W.heap[g]? = some (.cells cur.toArray 3 (0, 0))) (hle : N ≤ cap) (hm : cap ≤ maxLen) (hs : cur.length = cap) (ht : cur.take N = List.replicate N (.int .i64 x)) :
    (Kd.int .i64).R 3 W base (fun _ => True) (.slice (some ⟨g, 0, none⟩) N cap) (List.replicate N x) := by
  refine Kd.R_of_own ⟨by simp [encs], Or.inr ⟨g, cap, cur.toArray, by simp, hb, hh, by simpa using hle, hm, by simpa using hs, ?_⟩⟩ (fun _ _ => trivial)
  simp [encs, ht]
theorem slices_Repeat_int_int.spl {cur : List Value} {v : Value} {k m : Nat} (hk : cur.take k = List.replicate k v) (hkl : k + m ≤ cur.length) : (splice cur k (List.replicate m v)).take (k + m) = List.replicate (k + m) v := by
  unfold splice
  rw [hk, ← List.append_assoc, List.take_append_of_le_length (by simp), List.take_of_length_le (by simp), List.replicate_append_replicate]
set_option maxHeartbeats 1000000 in
set_option maxRecDepth 100000 in
theorem slices_Repeat_int_int.calls (A0 : Option Addr) (c0 : Nat) (l0 : List Int) (a1 : Int) (r : List Int) (w : World) (hr0 : Kd.C (Kd.int .i64) w A0 l0.length l0) (hc0 : l0.length ≤ c0) (h : slices_Repeat_int_int.f l0 a1 = some r) :
    Calls Try.prog 70 #[.slice A0 l0.length c0, .int .i64 a1] w fun e w' => ∃ v0_ : Value, e = .returned (v0_) ∧ Kd.R (Kd.int .i64) 3 w' w.heap.size (fun _ => True) v0_ r ∧ Below w.heap.size w w' := by
  obtain ⟨x, rfl⟩ : ∃ x, l0 = [x] := by
    unfold slices_Repeat_int_int.f at h
    split at h
    · exact ⟨_, rfl⟩
    · cases h
  have h2 : (if 1 ≤ a1 ∧ a1 ≤ 1000000 then some (List.replicate a1.toNat x) else none) = some r := h
  clear h
  split at h2
  case isFalse => cases h2
  case isTrue hn =>
  obtain rfl := Option.some.inj h2
  clear h2
  obtain ⟨N, rfl⟩ := Int.eq_ofNat_of_zero_le (show 0 ≤ a1 by omega)
  obtain ⟨ad, ea, hx⟩ := Kd.at_int hr0 0 (Int.le_refl 0) (by simp)
  cases ea
  have HX := Aside0.mk hx
  have HN := Aside0.mk (show 1 ≤ N ∧ N ≤ 1000000 by omega)
  have HM := Aside0.mk (slices_Repeat_int_int.mul N HN.out.2)
  have u1 : IntKind.u64.wrap ((1 : Nat) : Int) = 1 := by decide
  have u2 : IntKind.u64.wrap (1 : Int) = 1 := by decide
  have u3 : IntKind.u64.wrap (N : Int) = (N : Int) := by
    unfold IntKind.wrap
    simp [IntKind.bits, IntKind.signed]
    omega
  have u4 : IntKind.i64.wrap (N : Int) = (N : Int) := by
    unfold IntKind.wrap
    simp [IntKind.bits, IntKind.signed]
    omega
  have g1 : decide ((N : Int) < 0) = false := decide_eq_false (by omega)
  have g2 : decide ((N : Int) > 9223372036854775807) = false := decide_eq_false (by omega)
  have g3 : decide ((9223372036854775807 : Int) < (N : Int)) = false := decide_eq_false (by omega)
  have HSRC := Aside0.mk (show ∀ W, Below w.heap.size w W → ∀ (j : Nat) (v : Value), [Value.int .i64 x][j]? = some v → W.cell? (ad.add j) = some v from fun W hb j v hj => by
    have h0 : j = 0 := by
      have := (List.getElem?_eq_some_iff.1 hj).1
      simp only [List.length_singleton] at this
      omega
    subst h0
    obtain rfl : (.int .i64 x : Value) = v := by simpa using hj
    exact (hb.cell (World.block_lt_of_cell? w _ hx)).trans hx)
  clear hx hn hr0 hc0
  simp only [List.length_singleton]
  go_enter Try.func70, Try.ntmps70
  go_wp2_with (first | (go_at_call 73; refine (bits_Mul.calls 1 (N : Int) 0 (N : Int) _ HM.out).mono ?_; rintro e w' ⟨rfl, ⟨nd, rfl⟩⟩) | ((with_reducible refine gate_dst (N := 30) rfl ?_); refine Kd.R_make (Kd.int .i64) _ 3 rfl (N := 30) rfl 31 _ _ rfl (N : Int) rfl rfl Try.underlying31 (.int .i64 0) 8 info3 rfl (by decide) (by omega) 0 (ok := fun _ => True) (okp := fun _ => True) rfl (fun _ hk => hk) trivial (Int.natCast_nonneg _) (by have := HN.out.2; simp; omega) (pw_below_drewN (Below.refl _ w) _) (Nat.le_refl _) ?_; intro v1 w1 ho1 hb1 hg_ hnew_; clear hg_ hnew_; rw [Int.toNat_natCast] at ho1; obtain ⟨g, cap, cur, rfl, hbg, hgh, hle, hmx, hsz⟩ := slices_Repeat_int_int.row ho1 HN.out.1; have HB1 := Aside0.mk hb1; have HG1 := Aside0.mk (And.intro hbg (And.intro hgh (And.intro hle (And.intro hmx hsz)))); clear ho1 hb1 hbg hgh hle hmx hsz) | ((with_reducible refine wpList_copy_splice (o := ⟨some 33, _, _, _, _, _⟩) ?c1 (.tmp 31) (.tmp 32) 31 31 ?c2 3 ?c3 ?c4 (some ⟨g, 0, none⟩) (some ad) N cap 1 c0 ?c5 ?c6 g 0 cur 3 ?c7 [.int .i64 x] ?c8 ?c9 ?c10 ?c11 w.heap.size w ?c12 ?c13 ?c14); (case c1 => rfl); (case c2 => rfl); (case c3 => exact Try.underlying31); (case c4 => kernel_rfl); (case c5 => rfl); (case c6 => rfl); (case c7 => exact HG1.out.2.1); (case c8 => have := HN.out; show 1 = min 1 N; omega); (case c9 => exact (fun _ => ⟨rfl, ad, rfl, HSRC.out _ HB1.out⟩)); (case c10 => have h1_ := HG1.out.2.2; have h2_ := HN.out; show 0 + 1 ≤ cur.length; omega); (case c11 => simp [Value.oneCell']); (case c12 => exact HB1.out); (case c13 => exact HG1.out.1); intro w2 HG2 hB2; have HB2 := Aside0.mk hB2; clear hB2))
  go_loopg [8] N (fun gk v8 w' => ∃ (x8 : Int) (cu : List Value), v8 = .int .i64 x8 ∧ Aside0 (1 ≤ x8 ∧ x8 ≤ (N : Int) ∧ (N : Int) - x8 ≤ gk) ∧ Aside0 (w'.heap[g]? = some (.cells cu.toArray 3 (0, 0)) ∧ cu.length = cap ∧ cu.take x8.toNat = List.replicate x8.toNat (.int .i64 x)) ∧ Aside0 (Below w.heap.size w w'))
  case atStart =>
    refine ⟨1, splice cur 0 [.int .i64 x], rfl, ⟨by have := HN.out; omega⟩, ⟨HG2.out, ?_, ?_⟩, HB2⟩
    · rw [length_splice _ _ _ (by have h1_ := HG1.out.2.2; have h2_ := HN.out; show 0 + 1 ≤ cur.length; omega)]
      exact HG1.out.2.2.2.2
    · simp [splice]
  case round =>
    obtain ⟨x8, cu, rfl, HI, HC, HB⟩ := hrel
    by_cases c : x8 < (N : Int)
    · have cb : decide (x8 < (N : Int)) = true := decide_eq_true c
      have CC := Aside0.mk c
      have s1 : (0 ≤ x8) = True := eq_true (by have := HI.out; omega)
      have s2 : (x8 ≤ (N : Int)) = True := eq_true (by omega)
      have s3 : (x8 ≤ (cap : Int)) = True := eq_true (by have := HG1.out.2.2; omega)
      have s4 : decide (0 ≤ x8) = true := decide_eq_true (of_eq_true s1)
      have s5 : decide (x8 ≤ (N : Int)) = true := decide_eq_true (of_eq_true s2)
      have s6 : decide (x8 ≤ (cap : Int)) = true := decide_eq_true (of_eq_true s3)
      clear c
      obtain ⟨m, hm⟩ : ∃ m, m = Nat.min x8.toNat (N - x8.toNat) := ⟨_, rfl⟩
      have HM1 := Aside0.mk (show m = Nat.min x8.toNat (N - x8.toNat) ∧ 1 ≤ m ∧ m ≤ x8.toNat ∧ x8.toNat + m ≤ N from ⟨hm, by have h1_ : m = min x8.toNat (N - x8.toNat) := hm; have h2_ := HI.out; have h3_ := CC.out; omega⟩)
      have HNE := Aside0.mk (show ¬ cap = x8.toNat by have h1_ := HG1.out.2.2.1; have h3_ := CC.out; have h4_ := HI.out; omega)
      have hcn : (cap = x8.toNat) = False := eq_false HNE.out
      have HS1 := Aside0.mk (show ∀ (j : Nat) (v : Value), (List.replicate m (.int .i64 x : Value))[j]? = some v → wr.drew.cell? ((⟨g, 0, none⟩ : Addr).add j) = some v from fun j v hj => by
        have hjm : j < m := by
          have := (List.getElem?_eq_some_iff.1 hj).1
          rwa [List.length_replicate] at this
        rw [List.getElem?_replicate, if_pos hjm] at hj
        obtain rfl := Option.some.inj hj
        have hcell := Go.cell_of_row wr g j cu.toArray 3 (0, 0) HC.out.1
        rw [show ((⟨g, 0, none⟩ : Addr).add j) = ⟨g, j, none⟩ from by first | (rw [add_plain]; done) | (rw [add_plain]; congr 1; omega) | (simp only [add_plain, Nat.zero_add]) | (show (⟨g, 0 + j, none⟩ : Addr) = _; rw [Nat.zero_add])]
        show wr.cell? ⟨g, j, none⟩ = _
        rw [hcell]
        have ht := HC.out.2.2
        have h2 : (cu.take x8.toNat)[j]? = some (.int .i64 x) := by
          rw [ht, List.getElem?_replicate, if_pos (by have := HM1.out; omega)]
        rw [List.getElem?_take_of_lt (by have := HM1.out; omega)] at h2
        simpa using h2)
      clear hm
      try go_wp2
      refine start_ (n := 10) (S := fun w' => True) (ds := []) #[false, false, false, false, false, false, false, false, false, false] (by kernel_rfl) rfl rfl trivial (fun hHeld => ?_)
      refine pure_ (i := 0) (N := some 38) (v := ?_) (a' := ?_) #[true, false, false, false, false, false, false, false, false, false] rfl rfl (by kernel_rfl) (fun _ _ _ h => h) (Or.inl ⟨by rfl, ?_⟩) ?_ ?_
      rotate_left
      · intro w'
        go_simp
        with_reducible rfl
      rotate_left
      · simp only [Act.put, List.setIfInBounds_toArray, List.set_cons_zero, List.set_cons_succ, i64_w, i32_w]
        rfl
      refine pure_ (i := 1) (N := some 39) (v := ?_) (a' := ?_) #[true, true, false, false, false, false, false, false, false, false] rfl rfl (by kernel_rfl) (fun _ _ _ h => h) (Or.inl ⟨by rfl, ?_⟩) ?_ ?_
      rotate_left
      · intro w'
        go_simp
        with_reducible rfl
      rotate_left
      · simp only [Act.put, List.setIfInBounds_toArray, List.set_cons_zero, List.set_cons_succ, i64_w, i32_w]
        rfl
      refine pure_ (i := 2) (N := some 40) (v := ?_) (a' := ?_) #[true, true, true, false, false, false, false, false, false, false] rfl rfl (by kernel_rfl) (fun _ _ _ h => h) (Or.inl ⟨by rfl, ?_⟩) ?_ ?_
      rotate_left
      · intro w'
        go_simp
        with_reducible rfl
      rotate_left
      · simp only [Act.put, List.setIfInBounds_toArray, List.set_cons_zero, List.set_cons_succ, i64_w, i32_w]
        rfl
      refine pure_ (i := 3) (N := some 41) (v := ?_) (a' := ?_) #[true, true, true, true, false, false, false, false, false, false] rfl rfl (by kernel_rfl) (fun _ _ _ h => h) (Or.inl ⟨by rfl, ?_⟩) ?_ ?_
      rotate_left
      · intro w'
        go_simp
        with_reducible rfl
      rotate_left
      · simp only [Act.put, List.setIfInBounds_toArray, List.set_cons_zero, List.set_cons_succ, i64_w, i32_w]
        rfl
      refine pure_ (i := 4) (N := some 42) (v := ?_) (a' := ?_) #[true, true, true, true, true, false, false, false, false, false] rfl rfl (by kernel_rfl) (fun _ _ _ h => h) (Or.inl ⟨by rfl, ?_⟩) ?_ ?_
      rotate_left
      · intro w'
        go_simp
        with_reducible rfl
      rotate_left
      · simp only [Act.put, List.setIfInBounds_toArray, List.set_cons_zero, List.set_cons_succ, i64_w, i32_w]
        rfl
      refine pure_ (i := 5) (N := some 43) (v := ?_) (a' := ?_) #[true, true, true, true, true, true, false, false, false, false] rfl rfl (by kernel_rfl) (fun _ _ _ h => h) (Or.inl ⟨by rfl, ?_⟩) ?_ ?_
      rotate_left
      · intro w'
        go_simp
        with_reducible rfl
      rotate_left
      · simp only [Act.put, List.setIfInBounds_toArray, List.set_cons_zero, List.set_cons_succ, i64_w, i32_w]
        rfl
      refine pure_ (i := 6) (N := some 44) (v := ?_) (a' := ?_) #[true, true, true, true, true, true, true, false, false, false] rfl rfl (by kernel_rfl) (fun _ _ _ h => h) (Or.inl ⟨by rfl, ?_⟩) ?_ ?_
      rotate_left
      · intro w'
        go_simp
        with_reducible rfl
      rotate_left
      · simp only [Act.put, List.setIfInBounds_toArray, List.set_cons_zero, List.set_cons_succ, i64_w, i32_w]
        rfl
      refine one_ (i := 7) (N := some 45) #[true, true, true, true, true, true, true, true, false, false] rfl rfl (by kernel_rfl) (by decide) (fun K hK => ?_)
      refine step_copy_splice rfl (.tmp 41) (.tmp 44) 31 31 rfl 3 Try.underlying31 (by kernel_rfl) (some ⟨g, x8.toNat, none⟩) (some ⟨g, 0, none⟩) (N - x8.toNat) (cap - x8.toNat) x8.toNat cap (by rfl) (by rfl) g x8.toNat cu 3 HC.out.1 (List.replicate m (.int .i64 x)) (by rw [List.length_replicate]; exact HM1.out.1) (fun _ => ⟨rfl, ⟨g, 0, none⟩, rfl, HS1.out⟩) (by rw [List.length_replicate]; have h1_ := HM1.out; have h2_ := HG1.out.2.2; have h3_ := HC.out.2.1; omega) (by intro v hv; rw [List.eq_of_mem_replicate hv]; rfl) w.heap.size w (below_drew1 HB.out) HG1.out.1 ?_
      intro w4 HG4 hB4
      have HB4 := Aside0.mk hB4
      clear hB4
      rw [List.length_replicate]
      refine hK.out _ _ trivial (fun hHeld => ?_)
      clear hK K
      refine norm_ (a' := ?_) ?_ ?_
      rotate_left
      · show Act.put _ (some 45) _ = _
        simp only [Act.put, List.setIfInBounds_toArray, List.set_cons_zero, List.set_cons_succ, i64_w, i32_w]
        rfl
      refine pure_ (i := 8) (N := some 46) (v := ?_) (a' := ?_) #[true, true, true, true, true, true, true, true, true, false] rfl rfl (by kernel_rfl) (fun _ _ _ h => h) (Or.inl ⟨by rfl, ?_⟩) ?_ ?_
      rotate_left
      · intro w'
        go_simp
        with_reducible rfl
      rotate_left
      · simp only [Act.put, List.setIfInBounds_toArray, List.set_cons_zero, List.set_cons_succ, i64_w, i32_w]
        rfl
      refine pure_ (i := 9) (N := some 8) (v := ?_) (a' := ?_) #[true, true, true, true, true, true, true, true, true, true] rfl rfl (by kernel_rfl) (fun _ _ _ h => h) (Or.inl ⟨by rfl, ?_⟩) ?_ ?_
      rotate_left
      · intro w'
        go_simp
        with_reducible rfl
      rotate_left
      · simp only [Act.put, List.setIfInBounds_toArray, List.set_cons_zero, List.set_cons_succ, i64_w, i32_w]
        rfl
      refine done_ (by kernel_rfl) ?_
      try go_wp2
      go_roundg (N - (x8.toNat + m))
      case measure => have h1_ := HI.out; have h2_ := HM1.out; have h3_ := CC.out; omega
      case rel =>
        refine ⟨x8 + (m : Int), splice cu x8.toNat (List.replicate m (.int .i64 x)), ?_, ⟨by have h1_ := HI.out; have h2_ := HM1.out; have h3_ := CC.out; omega⟩, ⟨HG4.out, ?_, ?_⟩, HB4⟩
        · first | rfl | (rw [show wrap64 (x8 + (m : Int)) = x8 + (m : Int) by have h1_ := HI.out; have h2_ := HM1.out; have h3_ := HN.out; have h4_ := CC.out; unfold wrap64; omega]) | (simp; have h1_ := HI.out; have h2_ := HM1.out; have h3_ := HN.out; have h4_ := CC.out; unfold wrap64; omega)
        · rw [length_splice _ _ _ (by rw [List.length_replicate]; have h1_ := HM1.out; have h2_ := HG1.out.2.2; have h3_ := HC.out.2.1; omega)]
          exact HC.out.2.1
        · rw [show (x8 + (m : Int)).toNat = x8.toNat + m by have h1_ := HI.out; omega]
          exact slices_Repeat_int_int.spl HC.out.2.2 (by have h1_ := HM1.out; have h2_ := HG1.out.2.2; have h3_ := HC.out.2.1; omega)
    · have cb : decide (x8 < (N : Int)) = false := decide_eq_false c
      have CC := Aside0.mk c
      clear c
      go_wp2
      go_ret
      refine ⟨.slice (some ⟨g, 0, none⟩) N cap, rfl, ?_, HB.out⟩
      have h1_ := HI.out
      have h2_ := CC.out
      have h3_ := HC.out.2.2
      rw [show x8.toNat = N by omega] at h3_
      try rw [Int.toNat_natCast]
      exact slices_Repeat_int_int.unrow HG1.out.1 HC.out.1 HG1.out.2.2.1 HG1.out.2.2.2.1 HC.out.2.1 h3_

/-! ### impl_comeTo: function 57 -/
mutual
def impl_comeTo.l0 : Nat → List (List Int) → List (List Int) → List Int → List Int → Option (List Int)
  | 0, _, _, _, _ => none
  | k + 1, x0, x1, x5, x6 => if (x6.length : Int) > 0 then (impl_comeTo.l1 k x0 x1 x5 x6 (x0.length : Int) 0) else (some x5)
def impl_comeTo.l1 : Nat → List (List Int) → List (List Int) → List Int → List Int → Int → Int → Option (List Int)
  | 0, _, _, _, _, _, _ => none
  | k + 1, x0, x1, x5, x6, x21, x22 => if x22 < x21 then (if 0 ≤ x22 then (if x22 < (x5.length : Int) then (if (rd x5 x22) < 0 then (if 0 < (x6.length : Int) then ((impl_room.f x0 x1 (rd x6 0) x22).bind fun t214 => (if t214 > 0 then (if x6.length < 17592186044416 then (impl_comeTo.l1 k x0 x1 (x5.set (x22 : Int).toNat (rd x6 0)) (x6 ++ [x22]) x21 (wrap64 (x22 + 1))) else (none)) else (impl_comeTo.l1 k x0 x1 x5 x6 x21 (wrap64 (x22 + 1))))) else (none)) else (impl_comeTo.l1 k x0 x1 x5 x6 x21 (wrap64 (x22 + 1)))) else (none)) else (none)) else (if 1 ≤ (x6.length : Int) then (impl_comeTo.l0 k x0 x1 x5 (x6.drop (1 : Int).toNat)) else (none))
end
def impl_comeTo.f (k : Nat) (l0 : List (List Int)) (l1 : List (List Int)) : Option (List Int) := (slices_Repeat_int_int.f (([(-1)] : List Int)) (l0.length : Int)).bind fun t205 => (if 0 < (t205.length : Int) then (impl_comeTo.l0 k l0 l1 (t205.set (0 : Int).toNat 0) (([0] : List Int))) else (none))
theorem impl_comeTo.mono_l : ∀ k, (∀ y0 y1 y2 y3, LeO (impl_comeTo.l0 k y0 y1 y2 y3) (impl_comeTo.l0 (k + 1) y0 y1 y2 y3)) ∧ (∀ y0 y1 y2 y3 y4 y5, LeO (impl_comeTo.l1 k y0 y1 y2 y3 y4 y5) (impl_comeTo.l1 (k + 1) y0 y1 y2 y3 y4 y5))
  | 0 => ⟨fun _ _ _ _ r h => by simp [impl_comeTo.l0] at h, fun _ _ _ _ _ _ r h => by simp [impl_comeTo.l1] at h⟩
  | k + 1 => by
    obtain ⟨ih0, ih1⟩ := impl_comeTo.mono_l k
    refine ⟨?_, ?_⟩
    · intro y0 y1 y2 y3
      unfold impl_comeTo.l0
      repeat' first
      | (with_reducible exact ih0 _ _ _ _)
      | (with_reducible exact ih1 _ _ _ _ _ _)
      | (with_reducible exact LeO.refl _)
      | (with_reducible exact LeO.none _)
      | (with_reducible refine LeO.ite ?_ ?_)
      | (with_reducible refine LeO.bind ?_ (fun _ => ?_))
      | exact ih0 _ _ _ _
      | exact ih1 _ _ _ _ _ _
      | exact LeO.none _
      | refine LeO.ite ?_ ?_
      | refine LeO.bind ?_ (fun _ => ?_)
    · intro y0 y1 y2 y3 y4 y5
      unfold impl_comeTo.l1
      repeat' first
      | (with_reducible exact ih0 _ _ _ _)
      | (with_reducible exact ih1 _ _ _ _ _ _)
      | (with_reducible exact LeO.refl _)
      | (with_reducible exact LeO.none _)
      | (with_reducible refine LeO.ite ?_ ?_)
      | (with_reducible refine LeO.bind ?_ (fun _ => ?_))
      | exact ih0 _ _ _ _
      | exact ih1 _ _ _ _ _ _
      | exact LeO.none _
      | refine LeO.ite ?_ ?_
      | refine LeO.bind ?_ (fun _ => ?_)
theorem impl_comeTo.mono : ∀ a0 a1 k, LeO (impl_comeTo.f k a0 a1) (impl_comeTo.f (k + 1) a0 a1) := by
  intro a0 a1 k
  obtain ⟨ih0, ih1⟩ := impl_comeTo.mono_l k
  unfold impl_comeTo.f
  repeat' first
      | (with_reducible exact ih0 _ _ _ _)
      | (with_reducible exact ih1 _ _ _ _ _ _)
      | (with_reducible exact LeO.refl _)
      | (with_reducible exact LeO.none _)
      | (with_reducible refine LeO.ite ?_ ?_)
      | (with_reducible refine LeO.bind ?_ (fun _ => ?_))
      | exact ih0 _ _ _ _
      | exact ih1 _ _ _ _ _ _
      | exact LeO.none _
      | refine LeO.ite ?_ ?_
      | refine LeO.bind ?_ (fun _ => ?_)
set_option maxHeartbeats 8000000 in
set_option maxRecDepth 100000 in
theorem impl_comeTo.calls (k : Nat) (A0 : Option Addr) (c0 : Nat) (l0 : List (List Int)) (A1 : Option Addr) (c1 : Nat) (l1 : List (List Int)) (r : List Int) (w : World) (hr0 : Kd.C (Kd.slice 3 (Kd.int .i64)) w A0 l0.length l0) (hc0 : l0.length ≤ c0) (hr1 : Kd.C (Kd.slice 3 (Kd.int .i64)) w A1 l1.length l1) (hc1 : l1.length ≤ c1) (h : impl_comeTo.f k l0 l1 = some r) :
    Calls Try.prog 57 #[.slice A0 l0.length c0, .slice A1 l1.length c1] w fun e w' => ∃ v0_ : Value, e = .returned (v0_) ∧ Kd.R (Kd.int .i64) 3 w' w.heap.size (fun _ => True) v0_ r ∧ Below w.heap.size w w' := by
  have HR0 := Aside0.mk hr0
  have HC0 := Aside0.mk hc0
  clear hr0 hc0
  have HR1 := Aside0.mk hr1
  have HC1 := Aside0.mk hc1
  clear hr1 hc1
  have HB := Aside0.mk (Below.refl w.heap.size w)
  have H : ((slices_Repeat_int_int.f (([(-1)] : List Int)) (l0.length : Int)).bind fun t205 => (if 0 < (t205.length : Int) then (impl_comeTo.l0 k l0 l1 (t205.set (0 : Int).toNat 0) (([0] : List Int))) else (none))) = some r := h
  clear h
  obtain ⟨y202, hy202⟩ : ∃ y_ : List Int, y_ = (([(-1)] : List Int)) := ⟨_, rfl⟩
  replace H : ((slices_Repeat_int_int.f y202 (l0.length : Int)).bind fun t205 => (if 0 < (t205.length : Int) then (impl_comeTo.l0 k l0 l1 (t205.set (0 : Int).toNat 0) (([0] : List Int))) else (none))) = some r := by first | (rw [hy202]; with_reducible exact H) | (have H2_ := (Option.bind_some _ _).symm.trans H; rw [hy202]; with_reducible exact H2_) | (have H2_ := (Option.bind_some _ _).symm.trans H; with_reducible exact H2_) | with_reducible exact H | (rw [hy202]; exact H) | exact H
  have Ny202 := Aside0.mk hy202
  clear hy202
  replace H := Option.bind_eq_some_iff.mp H
  obtain ⟨t205, A30, H⟩ := H
  replace H : (if 0 < (t205.length : Int) then (impl_comeTo.l0 k l0 l1 (t205.set (0 : Int).toNat 0) (([0] : List Int))) else (none)) = some r := H
  have A3 := Aside0.mk A30
  clear A30
  by_cases c4 : 0 < (t205.length : Int)
  · rw [if_pos c4] at H
    have c4b0 : decide (0 < (t205.length : Int)) = true := decide_eq_true c4
    have c4b1 : decide (0 < t205.length) = true := decide_eq_true (by omega)
    clear c4
    obtain ⟨y208, hy208⟩ : ∃ y_ : List Int, y_ = (t205.set (0 : Int).toNat 0) := ⟨_, rfl⟩
    replace H : (impl_comeTo.l0 k l0 l1 y208 (([0] : List Int))) = some r := by first | (rw [hy208]; with_reducible exact H) | (have H2_ := (Option.bind_some _ _).symm.trans H; rw [hy208]; with_reducible exact H2_) | (have H2_ := (Option.bind_some _ _).symm.trans H; with_reducible exact H2_) | with_reducible exact H | (rw [hy208]; exact H) | exact H
    have Ny208 := Aside0.mk hy208
    clear hy208
    obtain ⟨y209, hy209⟩ : ∃ y_ : List Int, y_ = (([0] : List Int)) := ⟨_, rfl⟩
    replace H : (impl_comeTo.l0 k l0 l1 y208 y209) = some r := by first | (rw [hy209]; with_reducible exact H) | (have H2_ := (Option.bind_some _ _).symm.trans H; rw [hy209]; with_reducible exact H2_) | (have H2_ := (Option.bind_some _ _).symm.trans H; with_reducible exact H2_) | with_reducible exact H | (rw [hy209]; exact H) | exact H
    have Ny209 := Aside0.mk hy209
    clear hy209
    have H' := Aside0.mk H
    clear H
    go_enter Try.func57, Try.ntmps57
    go_wp2_with (first | ((with_reducible refine gate_dst (N := 8) rfl ?_); refine Kd.R_lit (Kd.int .i64) _ 3 ?hg (N := 8) ?hd (xs := ([(-1)] : List Int)) (inner := [.int .i64 (-1)]) (ok := fun _ => True) (okp := fun _ => True) ?hr ?hp (fun _ hk => hk) trivial (Below.refl _ _) (Nat.le_refl _) (by simp) ?_; (case hd => rfl); (case hg => rfl); (case hr => first | (go_simp; done) | (go_simp; rfl)); (case hp => exact (Reps.one (show Kd.M (Kd.int .i64) _ _ _ (-1) [.int .i64 (-1)] from rfl) (Reps.none _ _))); intro v203 w6 ho7 hb hg_ hnew_; clear hg_ hnew_; (first | rw [← Ny202.out] at ho7 | (simp only [Int.reduceToNat] at ho7; rw [← Ny202.out] at ho7)); have n0_ := Aside0.mk (Kd.R_lower ho7 (below_size (by repeat (first | (with_reducible first | exact HB.out | apply below_alloc | apply pw_below_drewN | apply below_drew1) | exact HB.out)))); have n1_ := Aside0.mk (below_step (by repeat (first | (with_reducible first | exact HB.out | apply below_alloc | apply pw_below_drewN | apply below_drew1) | exact HB.out)) hb); clear HB; have HO204 := n0_; have HB := n1_; clear n0_ n1_; clear hb ho7; obtain ⟨Ao8, co8, eo8⟩ := Kd.R_slice HO204.out; subst eo8) | ((with_reducible refine gate_callee (f := 70) rfl ?_); refine goesL_ (some 11) rfl rfl Try.func70 (by kernel_rfl) rfl #[.slice Ao8 y202.length co8, .int .i64 (l0.length : Int)] rfl (by (try simp only [List.map_toArray, List.map_cons, List.map_nil]); first | done | rfl | (simp only [List.length_drop, List.length_take]; rfl)) ?_; (with_reducible refine (slices_Repeat_int_int.calls _ _ y202 (l0.length : Int) t205 _ ?side1 ?side2 A3.out).mono ?_); (case side1 => repeat (first | exact (Kd.R_reads' HO204.out).2.2 | (with_reducible refine Kd.C_alloc ?_ _) | (with_reducible refine Kd.C_drewN ?_ _) | (with_reducible refine Kd.C_drew ?_))); (case side2 => exact (Kd.R_reads' HO204.out).2.1); rintro e w9 ⟨v206, rfl, ho0, hb⟩; refine ⟨_, rfl, ?_⟩; have n0_ := Aside0.mk (Kd.R_elder' (by (with_reducible repeat (first | apply Kd.R_alloc | apply Kd.R_drewN | apply Kd.R_drew)); exact HO204.out) (Kd.R_base ho0) hb); have n1_ := Aside0.mk (Kd.R_lower (Kd.R_new' ho0 (Kd.R_lt (by (with_reducible repeat (first | apply Kd.R_alloc | apply Kd.R_drewN | apply Kd.R_drew)); exact HO204.out))) (below_size (by repeat (first | (with_reducible first | exact HB.out | apply below_alloc | apply pw_below_drewN | apply below_drew1) | exact HB.out)))); have n2_ := Aside0.mk (below_step (by repeat (first | (with_reducible first | exact HB.out | apply below_alloc | apply pw_below_drewN | apply below_drew1) | exact HB.out)) hb); clear HO204; clear HB; have HO204 := n0_; have HO207 := n1_; have HB := n2_; clear n0_ n1_ n2_; (try clear hb); (try clear hb2); (try clear hk); (try clear hi); (try clear ho0); have p5 : 0 ≤ (0 : Int) := (by omega); have q5 : (0 : Int) < ((t205.length : Int) : Int) := of_decide_eq_true (by first | (with_reducible assumption) | assumption); have qi5 : (0 < t205.length) = True := eq_true (by omega); obtain ⟨go5, co5, eo5, gb5, gl5, cl5, HG5⟩ := Kd.R_form HO207.out (by omega); (first | cases eo5 | (injection eo5 with ea_ en_ ec_; (first | subst ea_ | (injection ea_ with ea_; subst ea_)); subst ec_; clear en_)); have GB5 := Aside0.mk gb5; have GG5 := Aside0.mk HG5; clear gb5 gl5 HG5; obtain ⟨hx5_0, hf5_0⟩ := Kd.R_celln 0 HO207.out (0 : Int) p5 q5; (try rw [show ((0 : Int)).toNat = 0 from rfl] at hx5_0); (try simp only [Nat.reduceMul, Nat.zero_mul, Nat.zero_add, Nat.reduceAdd] at hx5_0); (try rw [show ((0 : Int)).toNat = 0 from rfl] at hf5_0); (try simp only [Nat.reduceMul, Nat.zero_mul, Nat.zero_add, Nat.reduceAdd] at hf5_0); replace p5 := eq_true p5; replace q5 := eq_true q5; have n_ := Aside0.mk (Kd.R_mono (ok' := (fun k_ => some k_ ≠ (.slice Ao8 y202.length co8 : Value).ownBlock)) HO207.out (fun k_ hk => hk.2)); clear HO207; have HO207 := n_; clear n_; obtain ⟨hy10_, hz10_⟩ := Kd.R_celln 0 HO207.out (0 : Int) (by omega) (of_decide_eq_true (by first | (with_reducible assumption) | assumption)); (try simp only [Int.reduceToNat, Int.toNat_zero, Int.toNat_ofNat, Nat.reduceMul, Nat.zero_mul, Nat.zero_add] at hy10_ hz10_); (try rw [show ((0 : Int)).toNat = 0 from rfl] at hy10_); (try rw [show ((0 : Int)).toNat = 0 from rfl] at hz10_); have HP10 := Kd.R_putg HO207.out (0 : Int) 0) | ((with_reducible refine gate_store (t := 3) (p := 13) rfl ?_); refine store_event (t := 3) (p := 13) (v := ?vo_w11) (w1 := (w9.setCell ⟨go5, (0 : Int).toNat, none⟩ (.int .i64 0))) ?hg ?ho ?hn ?hr ?_; (case ho => rfl); (case hg => rfl); (case hn => rfl); (case hr => first | (go_simp; done) | (go_simp; rfl)); intro w11 hw; have hg : w9.grownBy w11 (some go5) := (by rw [hw]; exact HP10.2); have hp_ : Kd.R (Kd.int .i64) 3 w11 w.heap.size (fun k_ => some k_ ≠ (.slice Ao8 y202.length co8 : Value).ownBlock) (.slice (some ⟨go5, 0, none⟩) t205.length co5) y208 := (by rw [hw, Ny208.out]; exact HP10.1); clear HP10; have n0_ := Aside0.mk (Kd.R_after (v := (.slice (some ⟨go5, 0, none⟩) t205.length co5)) (v1 := (.slice (some ⟨go5, 0, none⟩) t205.length co5)) (ok := (fun _ => True)) (by (with_reducible repeat (first | apply Kd.R_alloc | apply Kd.R_drewN | apply Kd.R_drew)); exact HO204.out) hg (.inl rfl)); have n1_ := Aside0.mk (hp_); have n2_ := Aside0.mk ((by rw [hw]; exact below_set (HB.out) GB5.out : Below w.heap.size w w11)); clear HO204; clear HO207; clear HB; have HO204 := n0_; have HO207 := n1_; have HB := n2_; clear n0_ n1_ n2_; clear hg hw hp_) | ((with_reducible refine gate_dst (N := 14) rfl ?_); refine Kd.R_lit (Kd.int .i64) _ 3 ?hg (N := 14) ?hd (xs := ([0] : List Int)) (inner := [.int .i64 0]) (ok := fun _ => True) (okp := fun _ => True) ?hr ?hp (fun _ hk => hk) trivial (Below.refl _ _) (Nat.le_refl _) (by simp) ?_; (case hd => rfl); (case hg => rfl); (case hr => first | (go_simp; done) | (go_simp; rfl)); (case hp => exact (Reps.one (show Kd.M (Kd.int .i64) _ _ _ 0 [.int .i64 0] from rfl) (Reps.none _ _))); intro v210 w12 ho13 hb hg_ hnew_; clear hg_ hnew_; (first | rw [← Ny209.out] at ho13 | (simp only [Int.reduceToNat] at ho13; rw [← Ny209.out] at ho13)); have n0_ := Aside0.mk (Kd.R_elder' (by (with_reducible repeat (first | apply Kd.R_alloc | apply Kd.R_drewN | apply Kd.R_drew)); exact HO204.out) (Kd.R_base ho13) hb); have n1_ := Aside0.mk (Kd.R_elder' (by (with_reducible repeat (first | apply Kd.R_alloc | apply Kd.R_drewN | apply Kd.R_drew)); exact HO207.out) (Kd.R_base ho13) hb); have n2_ := Aside0.mk (Kd.R_lower (Kd.R_new' (Kd.R_new' ho13 (Kd.R_lt (by (with_reducible repeat (first | apply Kd.R_alloc | apply Kd.R_drewN | apply Kd.R_drew)); exact HO204.out))) (Kd.R_lt (by (with_reducible repeat (first | apply Kd.R_alloc | apply Kd.R_drewN | apply Kd.R_drew)); exact HO207.out))) (below_size (by repeat (first | (with_reducible first | exact HB.out | apply below_alloc | apply pw_below_drewN | apply below_drew1) | exact HB.out)))); have n3_ := Aside0.mk (below_step (by repeat (first | (with_reducible first | exact HB.out | apply below_alloc | apply pw_below_drewN | apply below_drew1) | exact HB.out)) hb); clear HO204; clear HO207; clear HB; have HO204 := n0_; have HO207 := n1_; have HO211 := n2_; have HB := n3_; clear n0_ n1_ n2_ n3_; clear hb ho13))
    go_loopg [6] k (fun kq v6 w' => ∃ (x5_1 : List Int) (x6_1 : List Int), Aside0 (impl_comeTo.l0 kq l0 l1 x5_1 x6_1 = some r) ∧ Aside0 (kq ≤ k) ∧ Aside0 (Kd.R (Kd.int .i64) 3 w' w.heap.size (fun k_ => some k_ ≠ (v6 : Value).ownBlock) (.slice (some ⟨go5, 0, none⟩) t205.length co5) x5_1) ∧ Aside0 (Kd.Q (Kd.int .i64) 3 w' w.heap.size (fun k_ => some k_ ≠ ((.slice (some ⟨go5, 0, none⟩) t205.length co5) : Value).ownBlock) v6 x6_1) ∧ Aside0 (Below w.heap.size w w'))
    case atStart => exact ⟨(y208), (y209), H', ⟨Nat.le_refl _⟩, ⟨by (with_reducible repeat (first | apply Kd.R_alloc | apply Kd.R_drewN | apply Kd.R_drew)); exact Kd.R_mono HO207.out (fun _ hk => hk.2)⟩, ⟨Kd.Q_of_R (by (with_reducible repeat (first | apply Kd.R_alloc | apply Kd.R_drewN | apply Kd.R_drew)); exact Kd.R_mono HO211.out (fun _ hk => hk.2))⟩, ⟨by repeat (first | (with_reducible first | exact HB.out | apply below_alloc | apply pw_below_drewN | apply below_drew1) | exact HB.out)⟩⟩
    case round =>
      clear H'
      try clear c1
      try clear p2
      try clear c4
      try clear c4b0
      try clear c4b1
      try clear c5
      try clear p5
      try clear q5
      try clear hx5
      try clear qi5
      try clear hf5
      try clear c7
      try clear hx5_0
      try clear p5
      try clear q5
      obtain ⟨x5_1, x6_1, HA, HK1, HO_5, HO_6, HB⟩ := hrel
      have hl5_1 := (Kd.R_reads' HO_5.out).1
      rw [hl5_1] at HO_5
      (try simp only [hl5_1])
      (try simp only [hl5_1] at HO_6)
      cases gk with
      | zero => exact absurd HA.out (by simp [impl_comeTo.l0])
      | succ k1 =>
        have H := HA.out
        clear HA
        simp only [impl_comeTo.l0] at H
        by_cases c14 : (x6_1.length : Int) > 0
        · rw [if_pos c14] at H
          have c14b0 : decide (0 < (x6_1.length : Int)) = true := decide_eq_true c14
          have c14b1 : decide (0 < x6_1.length) = true := decide_eq_true (by omega)
          clear c14
          have H' := Aside0.mk H
          clear H
          obtain ⟨Ao15, co15, eo15, _⟩ := Kd.Q_slice HO_6.out
          subst eo15
          go_wp2
          go_loopg [6, 22] k1 (fun kq v6 v22 w' => ∃ (x5_2 : List Int) (x6_2 : List Int) (x22_2 : Int), v22 = .int .i64 x22_2 ∧ Aside0 (impl_comeTo.l1 kq l0 l1 x5_2 x6_2 (l0.length : Int) x22_2 = some r) ∧ Aside0 (kq ≤ k1) ∧ Aside0 (Kd.R (Kd.int .i64) 3 w' w.heap.size (fun k_ => some k_ ≠ (v6 : Value).ownBlock) (.slice (some ⟨go5, 0, none⟩) x5_1.length co5) x5_2) ∧ Aside0 (Kd.Q (Kd.int .i64) 3 w' w.heap.size (fun k_ => some k_ ≠ ((.slice (some ⟨go5, 0, none⟩) x5_1.length co5) : Value).ownBlock) v6 x6_2) ∧ Aside0 (Below w.heap.size w w'))
          case atStart => exact ⟨(x5_1), (x6_1), (0), (by first | rfl | (simp; done) | (simp [*]; done)), H', ⟨Nat.le_refl _⟩, ⟨by (try simp only [hl5_1]); (with_reducible repeat (first | apply Kd.R_alloc | apply Kd.R_drewN | apply Kd.R_drew)); exact HO_5.out⟩, ⟨by (try simp only [hl5_1]); (with_reducible repeat (first | apply Kd.Q_alloc | apply Kd.Q_drewN | apply Kd.Q_drew)); exact HO_6.out⟩, ⟨by repeat (first | (with_reducible first | exact HB.out | apply below_alloc | apply pw_below_drewN | apply below_drew1) | exact HB.out)⟩⟩
          case round =>
            clear H'
            try clear c1
            try clear p2
            try clear c4
            try clear c4b0
            try clear c4b1
            try clear c5
            try clear p5
            try clear q5
            try clear hx5
            try clear qi5
            try clear hf5
            try clear c7
            try clear c14
            try clear c14b0
            try clear c14b1
            try clear hx5_0
            try clear p2
            try clear p5
            try clear q5
            obtain ⟨x5_2, x6_2, x22_2, rfl, HA, HK2, HO_5, HO_6, HB⟩ := hrel
            have hl5_2 := (Kd.R_reads' HO_5.out).1
            rw [hl5_2] at HO_5
            (try simp only [hl5_2])
            (try simp only [hl5_2] at HO_6)
            cases gk with
            | zero => exact absurd HA.out (by simp [impl_comeTo.l1])
            | succ k2 =>
              have H := HA.out
              clear HA
              simp only [impl_comeTo.l1] at H
              by_cases c16 : x22_2 < (l0.length : Int)
              · rw [if_pos c16] at H
                have c16b0 : decide (x22_2 < (l0.length : Int)) = true := decide_eq_true c16
                clear c16
                by_cases c17 : 0 ≤ x22_2
                · rw [if_pos c17] at H
                  have c17b0 : decide (0 ≤ x22_2) = true := decide_eq_true c17
                  clear c17
                  by_cases c18 : x22_2 < (x5_2.length : Int)
                  · rw [if_pos c18] at H
                    have c18b0 : decide (x22_2 < (x5_2.length : Int)) = true := decide_eq_true c18
                    clear c18
                    by_cases c19 : (rd x5_2 x22_2) < 0
                    · rw [if_pos c19] at H
                      have c19b0 : decide ((rd x5_2 x22_2) < 0) = true := decide_eq_true c19
                      clear c19
                      by_cases c20 : 0 < (x6_2.length : Int)
                      · rw [if_pos c20] at H
                        have c20b0 : decide (0 < (x6_2.length : Int)) = true := decide_eq_true c20
                        have c20b1 : decide (0 < x6_2.length) = true := decide_eq_true (by omega)
                        clear c20
                        replace H := Option.bind_eq_some_iff.mp H
                        obtain ⟨t214, A210, H⟩ := H
                        replace H : (if t214 > 0 then (if x6_2.length < 17592186044416 then (impl_comeTo.l1 k2 l0 l1 (x5_2.set (x22_2 : Int).toNat (rd x6_2 0)) (x6_2 ++ [x22_2]) (l0.length : Int) (wrap64 (x22_2 + 1))) else (none)) else (impl_comeTo.l1 k2 l0 l1 x5_2 x6_2 (l0.length : Int) (wrap64 (x22_2 + 1)))) = some r := H
                        have A21 := Aside0.mk A210
                        clear A210
                        by_cases c22 : t214 > 0
                        · rw [if_pos c22] at H
                          have c22b0 : decide (0 < t214) = true := decide_eq_true c22
                          clear c22
                          obtain ⟨y216, hy216⟩ : ∃ y_ : List Int, y_ = (x5_2.set (x22_2 : Int).toNat (rd x6_2 0)) := ⟨_, rfl⟩
                          replace H : (if x6_2.length < 17592186044416 then (impl_comeTo.l1 k2 l0 l1 y216 (x6_2 ++ [x22_2]) (l0.length : Int) (wrap64 (x22_2 + 1))) else (none)) = some r := by first | (rw [hy216]; with_reducible exact H) | (have H2_ := (Option.bind_some _ _).symm.trans H; rw [hy216]; with_reducible exact H2_) | (have H2_ := (Option.bind_some _ _).symm.trans H; with_reducible exact H2_) | with_reducible exact H | (rw [hy216]; exact H) | exact H
                          have Ny216 := Aside0.mk hy216
                          clear hy216
                          by_cases c24 : x6_2.length < 17592186044416
                          · rw [if_pos c24] at H
                            have LMc24 := Aside0.mk c24
                            clear c24
                            obtain ⟨y217, hy217⟩ : ∃ y_ : List Int, y_ = (x6_2 ++ [x22_2]) := ⟨_, rfl⟩
                            replace H : (impl_comeTo.l1 k2 l0 l1 y216 y217 (l0.length : Int) (wrap64 (x22_2 + 1))) = some r := by first | (rw [hy217]; with_reducible exact H) | (have H2_ := (Option.bind_some _ _).symm.trans H; rw [hy217]; with_reducible exact H2_) | (have H2_ := (Option.bind_some _ _).symm.trans H; with_reducible exact H2_) | with_reducible exact H | (rw [hy217]; exact H) | exact H
                            have Ny217 := Aside0.mk hy217
                            clear hy217
                            have H' := Aside0.mk H
                            clear H
                            have p212 : 0 ≤ (x22_2 : Int) := of_decide_eq_true (by first | (with_reducible assumption) | assumption)
                            have q212 : x22_2 < (x5_2.length : Int) := of_decide_eq_true (by first | (with_reducible assumption) | assumption)
                            obtain ⟨ad212, e212, hx212_0⟩ := Kd.at_int (Kd.R_reads' HO_5.out).2.2 x22_2 p212 q212
                            obtain rfl : (⟨go5, 0, none⟩ : Addr) = ad212 := (by injection e212)
                            (first | simp only [add_plain] at hx212_0 | simp only [add_at] at hx212_0 | simp only [Addr.add, Nat.zero_add] at hx212_0 | skip)
                            replace p212 := eq_true p212
                            replace q212 := eq_true q212
                            obtain ⟨Ao25, co25, eo25, _⟩ := Kd.Q_slice HO_6.out
                            subst eo25
                            have p213 : 0 ≤ (0 : Int) := (by omega)
                            have q213 : 0 < (x6_2.length : Int) := of_decide_eq_true (by first | (with_reducible assumption) | assumption)
                            obtain ⟨ad213, e213, hx213_0⟩ := Kd.at_int (Kd.Q_reads' HO_6.out).2.2 0 p213 q213
                            cases e213
                            have qi213 : (0 < x6_2.length) = True := eq_true (by omega)
                            (try rw [show ((0 : Int)).toNat = 0 from rfl] at hx213_0)
                            (try rw [Addr.add_zero'] at hx213_0)
                            replace p213 := eq_true p213
                            replace q213 := eq_true q213
                            go_wp2_with (first | (go_at_call 51; (with_reducible refine (impl_room.calls _ _ l0 _ _ l1 (rd x6_2 0) x22_2 t214 _ ?side1 ?side2 ?side3 ?side4 A21.out).mono ?_); (case side1 => repeat (first | exact (Kd.C_below HR0.out HB.out) | (with_reducible refine Kd.C_alloc ?_ _) | (with_reducible refine Kd.C_drewN ?_ _) | (with_reducible refine Kd.C_drew ?_))); (case side2 => exact HC0.out); (case side3 => repeat (first | exact (Kd.C_below HR1.out HB.out) | (with_reducible refine Kd.C_alloc ?_ _) | (with_reducible refine Kd.C_drewN ?_ _) | (with_reducible refine Kd.C_drew ?_))); (case side4 => exact HC1.out); rintro e w' ⟨rfl, ⟨nd, rfl⟩⟩; (try (rw [drewN_self wr]; generalize hq_ : World.drewN wr _ = wr; have n0_ : Aside0 (Kd.R (Kd.int .i64) 3 wr w.heap.size (fun k_ => some k_ ≠ (.slice (some ad213) x6_2.length co25 : Value).ownBlock) (.slice (some ⟨go5, 0, none⟩) x5_2.length co5) x5_2) := ⟨by rw [← hq_]; exact (by (with_reducible repeat (first | apply Kd.R_alloc | apply Kd.R_drewN | apply Kd.R_drew)); exact HO_5.out)⟩; have n1_ : Aside0 (Kd.Q (Kd.int .i64) 3 wr w.heap.size (fun k_ => some k_ ≠ (.slice (some ⟨go5, 0, none⟩) x5_2.length co5 : Value).ownBlock) (.slice (some ad213) x6_2.length co25) x6_2) := ⟨by rw [← hq_]; exact (by (with_reducible repeat (first | apply Kd.Q_alloc | apply Kd.Q_drewN | apply Kd.Q_drew)); exact HO_6.out)⟩; have n2_ : Aside0 (Below w.heap.size w wr) := ⟨by rw [← hq_]; exact (by repeat (first | (with_reducible first | exact HB.out | apply below_alloc | apply pw_below_drewN | apply below_drew1) | exact HB.out))⟩; clear HO_5 HO_6 HB hq_; have HO_5 := n0_; have HO_6 := n1_; have HB := n2_; clear n0_ n1_ n2_)); have p215 : 0 ≤ (0 : Int) := (by omega); have q215 : 0 < (x6_2.length : Int) := of_decide_eq_true (by first | (with_reducible assumption) | assumption); obtain ⟨ad215, e215, hx215_0⟩ := Kd.at_int (Kd.Q_reads' HO_6.out).2.2 0 p215 q215; obtain rfl : ad213 = ad215 := (by injection e215); have qi215 : (0 < x6_2.length) = True := eq_true (by omega); (try rw [show ((0 : Int)).toNat = 0 from rfl] at hx215_0); (try rw [Addr.add_zero'] at hx215_0); replace p215 := eq_true p215; replace q215 := eq_true q215; have p23 : 0 ≤ (x22_2 : Int) := of_decide_eq_true (by first | (with_reducible assumption) | assumption); have q23 : (x22_2 : Int) < ((x5_2.length : Int) : Int) := of_decide_eq_true (by first | (with_reducible assumption) | assumption); obtain ⟨hx23_0, hf23_0⟩ := Kd.R_celln 0 HO_5.out (x22_2 : Int) p23 q23; replace p23 := eq_true p23; replace q23 := eq_true q23; obtain ⟨hy26_, hz26_⟩ := Kd.R_celln 0 HO_5.out (x22_2 : Int) (of_decide_eq_true (by first | (with_reducible assumption) | assumption)) (of_decide_eq_true (by first | (with_reducible assumption) | assumption)); have HP26 := Kd.R_putg HO_5.out (x22_2 : Int) (rd x6_2 0)) | ((with_reducible refine gate_store (t := 3) (p := 45) rfl ?_); refine store_event (t := 3) (p := 45) (v := ?vo_w27) (w1 := (wr.setCell ⟨go5, (x22_2 : Int).toNat, none⟩ (.int .i64 (rd x6_2 0)))) ?hg ?ho ?hn ?hr ?_; (case ho => rfl); (case hg => rfl); (case hn => rfl); (case hr => first | (go_simp; done) | (go_simp; rfl)); intro w27 hw; have hg : wr.grownBy w27 (some go5) := (by rw [hw]; exact HP26.2); have hp_ : Kd.R (Kd.int .i64) 3 w27 w.heap.size (fun k_ => some k_ ≠ (.slice (some ad213) x6_2.length co25 : Value).ownBlock) (.slice (some ⟨go5, 0, none⟩) x5_2.length co5) y216 := (by rw [hw, Ny216.out]; exact HP26.1); clear HP26; have n0_ := Aside0.mk (hp_); have n1_ := Aside0.mk (Kd.Q_after (v := (.slice (some ⟨go5, 0, none⟩) x5_2.length co5)) (v1 := (.slice (some ⟨go5, 0, none⟩) x5_2.length co5)) (ok := (fun _ => True)) (by (with_reducible repeat (first | apply Kd.Q_alloc | apply Kd.Q_drewN | apply Kd.Q_drew)); exact Kd.Q_mono HO_6.out (fun _ hk => ⟨trivial, hk⟩)) hg (.inl rfl)); have n2_ := Aside0.mk ((by rw [hw]; exact below_set (HB.out) GB5.out : Below w.heap.size w w27)); clear HO_5; clear HO_6; clear HB; have HO_5 := n0_; have HO_6 := n1_; have HB := n2_; clear n0_ n1_ n2_; clear hg hw hp_) | ((with_reducible refine gate_builtin (b := .append) (xs := #[.tmp 46, .tmp 48]) rfl ?_); at_builtin; refine Kd.Q_append (Kd.int .i64) (w0 := w) w.heap.size rfl (.tmp 46) (.tmp 48) 31 3 (.int .i64 0) 8 rfl Try.underlying31 info3 rfl (by decide) (by omega) (.slice (some ad213) x6_2.length co25) x6_2 x22_2 [.int .i64 x22_2] (fun k_ => some k_ ≠ (.slice (some ⟨go5, 0, none⟩) x5_2.length co5 : Value).ownBlock) (fun _ => False) rfl rfl ?aP (fun _ hk => hk.elim) ?aF ?aO ?aB ?aS ?aL ?_; (case aP => exact rfl); (case aB => exact (by repeat (first | (with_reducible first | exact HB.out | apply below_alloc | apply pw_below_drewN | apply below_drew1) | exact HB.out))); (case aF => exact (fun k_ hk => Kd.fresh' (Kd.R_lt (by (with_reducible repeat (first | apply Kd.R_alloc | apply Kd.R_drewN | apply Kd.R_drew)); exact HO_5.out)) k_ hk)); (case aO => exact (by (with_reducible repeat (first | apply Kd.Q_alloc | apply Kd.Q_drewN | apply Kd.Q_drew)); exact Kd.Q_mono HO_6.out (fun _ hk => hk.2))); (case aS => exact (below_size (by repeat (first | (with_reducible first | exact HB.out | apply below_alloc | apply pw_below_drewN | apply below_drew1) | exact HB.out)))); (case aL => have := LMc24.out; omega); intro v218 w28 ho hb hg hat; rw [← Ny217.out] at ho; have n0_ := Aside0.mk (Kd.R_after (ok := (fun _ => True)) (by (with_reducible repeat (first | apply Kd.R_alloc | apply Kd.R_drewN | apply Kd.R_drew)); exact Kd.R_mono HO_5.out (fun _ hk => ⟨trivial, hk⟩)) hg hat); have n1_ := Aside0.mk (hb); have n2_ := Aside0.mk (ho); clear HO_5; clear HB; clear HO_6; have HO_5 := n0_; have HB := n1_; have HO219 := n2_; clear n0_ n1_ n2_; clear ho hb hg hat))
                            (try simp only [← hl5_2])
                            go_roundg k2
                            case measure => have := HK1.out; have := HK2.out; omega
                            case rel => exact ⟨(y216), (y217), (wrap64 (x22_2 + 1)), (by first | rfl | (simp; done) | (simp [*]; done)), H', ⟨by have := HK1.out; have := HK2.out; omega⟩, ⟨by (try simp only [hl5_1]); (try simp only [hl5_2]); (with_reducible repeat (first | apply Kd.R_alloc | apply Kd.R_drewN | apply Kd.R_drew)); exact Kd.R_mono HO_5.out (fun _ hk => hk.2)⟩, ⟨by (try simp only [hl5_1]); (try simp only [hl5_2]); (with_reducible repeat (first | apply Kd.Q_alloc | apply Kd.Q_drewN | apply Kd.Q_drew)); exact HO219.out⟩, ⟨by repeat (first | (with_reducible first | exact HB.out | apply below_alloc | apply pw_below_drewN | apply below_drew1) | exact HB.out)⟩⟩
                          · rw [if_neg c24] at H
                            exact absurd H (by simp)
                        · rw [if_neg c22] at H
                          have c22b0 : decide (0 < t214) = false := decide_eq_false c22
                          clear c22
                          have H' := Aside0.mk H
                          clear H
                          have p212 : 0 ≤ (x22_2 : Int) := of_decide_eq_true (by first | (with_reducible assumption) | assumption)
                          have q212 : x22_2 < (x5_2.length : Int) := of_decide_eq_true (by first | (with_reducible assumption) | assumption)
                          obtain ⟨ad212, e212, hx212_0⟩ := Kd.at_int (Kd.R_reads' HO_5.out).2.2 x22_2 p212 q212
                          obtain rfl : (⟨go5, 0, none⟩ : Addr) = ad212 := (by injection e212)
                          (first | simp only [add_plain] at hx212_0 | simp only [add_at] at hx212_0 | simp only [Addr.add, Nat.zero_add] at hx212_0 | skip)
                          replace p212 := eq_true p212
                          replace q212 := eq_true q212
                          obtain ⟨Ao29, co29, eo29, _⟩ := Kd.Q_slice HO_6.out
                          subst eo29
                          have p213 : 0 ≤ (0 : Int) := (by omega)
                          have q213 : 0 < (x6_2.length : Int) := of_decide_eq_true (by first | (with_reducible assumption) | assumption)
                          obtain ⟨ad213, e213, hx213_0⟩ := Kd.at_int (Kd.Q_reads' HO_6.out).2.2 0 p213 q213
                          cases e213
                          have qi213 : (0 < x6_2.length) = True := eq_true (by omega)
                          (try rw [show ((0 : Int)).toNat = 0 from rfl] at hx213_0)
                          (try rw [Addr.add_zero'] at hx213_0)
                          replace p213 := eq_true p213
                          replace q213 := eq_true q213
                          go_wp2_with (first | (go_at_call 51; (with_reducible refine (impl_room.calls _ _ l0 _ _ l1 (rd x6_2 0) x22_2 t214 _ ?side1 ?side2 ?side3 ?side4 A21.out).mono ?_); (case side1 => repeat (first | exact (Kd.C_below HR0.out HB.out) | (with_reducible refine Kd.C_alloc ?_ _) | (with_reducible refine Kd.C_drewN ?_ _) | (with_reducible refine Kd.C_drew ?_))); (case side2 => exact HC0.out); (case side3 => repeat (first | exact (Kd.C_below HR1.out HB.out) | (with_reducible refine Kd.C_alloc ?_ _) | (with_reducible refine Kd.C_drewN ?_ _) | (with_reducible refine Kd.C_drew ?_))); (case side4 => exact HC1.out); rintro e w' ⟨rfl, ⟨nd, rfl⟩⟩))
                          (try simp only [← hl5_2])
                          go_roundg k2
                          case measure => have := HK1.out; have := HK2.out; omega
                          case rel => exact ⟨(x5_2), (x6_2), (wrap64 (x22_2 + 1)), (by first | rfl | (simp; done) | (simp [*]; done)), H', ⟨by have := HK1.out; have := HK2.out; omega⟩, ⟨by (try simp only [hl5_1]); (try simp only [hl5_2]); (with_reducible repeat (first | apply Kd.R_alloc | apply Kd.R_drewN | apply Kd.R_drew)); exact HO_5.out⟩, ⟨by (try simp only [hl5_1]); (try simp only [hl5_2]); (with_reducible repeat (first | apply Kd.Q_alloc | apply Kd.Q_drewN | apply Kd.Q_drew)); exact HO_6.out⟩, ⟨by repeat (first | (with_reducible first | exact HB.out | apply below_alloc | apply pw_below_drewN | apply below_drew1) | exact HB.out)⟩⟩
                      · rw [if_neg c20] at H
                        exact absurd H (by simp)
                    · rw [if_neg c19] at H
                      have c19b0 : decide ((rd x5_2 x22_2) < 0) = false := decide_eq_false c19
                      clear c19
                      have H' := Aside0.mk H
                      clear H
                      have p212 : 0 ≤ (x22_2 : Int) := of_decide_eq_true (by first | (with_reducible assumption) | assumption)
                      have q212 : x22_2 < (x5_2.length : Int) := of_decide_eq_true (by first | (with_reducible assumption) | assumption)
                      obtain ⟨ad212, e212, hx212_0⟩ := Kd.at_int (Kd.R_reads' HO_5.out).2.2 x22_2 p212 q212
                      obtain rfl : (⟨go5, 0, none⟩ : Addr) = ad212 := (by injection e212)
                      (first | simp only [add_plain] at hx212_0 | simp only [add_at] at hx212_0 | simp only [Addr.add, Nat.zero_add] at hx212_0 | skip)
                      replace p212 := eq_true p212
                      replace q212 := eq_true q212
                      go_wp2
                      (try simp only [← hl5_2])
                      go_roundg k2
                      case measure => have := HK1.out; have := HK2.out; omega
                      case rel => exact ⟨(x5_2), (x6_2), (wrap64 (x22_2 + 1)), (by first | rfl | (simp; done) | (simp [*]; done)), H', ⟨by have := HK1.out; have := HK2.out; omega⟩, ⟨by (try simp only [hl5_1]); (try simp only [hl5_2]); (with_reducible repeat (first | apply Kd.R_alloc | apply Kd.R_drewN | apply Kd.R_drew)); exact HO_5.out⟩, ⟨by (try simp only [hl5_1]); (try simp only [hl5_2]); (with_reducible repeat (first | apply Kd.Q_alloc | apply Kd.Q_drewN | apply Kd.Q_drew)); exact HO_6.out⟩, ⟨by repeat (first | (with_reducible first | exact HB.out | apply below_alloc | apply pw_below_drewN | apply below_drew1) | exact HB.out)⟩⟩
                  · rw [if_neg c18] at H
                    exact absurd H (by simp)
                · rw [if_neg c17] at H
                  exact absurd H (by simp)
              · rw [if_neg c16] at H
                have c16b0 : decide (x22_2 < (l0.length : Int)) = false := decide_eq_false c16
                clear c16
                by_cases c30 : 1 ≤ (x6_2.length : Int)
                · rw [if_pos c30] at H
                  have c30b0 := eq_true c30
                  have c30b1 : decide (1 ≤ (x6_2.length : Int)) = true := decide_eq_true c30
                  clear c30
                  obtain ⟨y220, hy220⟩ : ∃ y_ : List Int, y_ = (x6_2.drop (1 : Int).toNat) := ⟨_, rfl⟩
                  replace H : (impl_comeTo.l0 k2 l0 l1 x5_2 y220) = some r := by first | (rw [hy220]; with_reducible exact H) | (have H2_ := (Option.bind_some _ _).symm.trans H; rw [hy220]; with_reducible exact H2_) | (have H2_ := (Option.bind_some _ _).symm.trans H; with_reducible exact H2_) | with_reducible exact H | (rw [hy220]; exact H) | exact H
                  have Ny220 := Aside0.mk hy220
                  clear hy220
                  have H' := Aside0.mk H
                  clear H
                  obtain ⟨Ao31, co31, eo31, _⟩ := Kd.Q_slice HO_6.out
                  subst eo31
                  have q32 : (1 : Int) ≤ ((x6_2.length : Int) : Int) := of_decide_eq_true (by first | (with_reducible assumption) | assumption)
                  obtain ⟨i032, hi032, _, hsz32, _⟩ := info_parts info3
                  have hcut32 := cut_from (P := Try.prog) 31 3 .i64 Try.underlying31 hi032 1 hsz32 Ao31 x6_2.length co31 1 (by omega) q32
                  have hr32 := Kd.Q_drop (k := (1 : Int).toNat) HO_6.out (by omega)
                  obtain ⟨A32, hA32⟩ : ∃ A1, A1 = (if co31 = (1 : Int).toNat then Ao31 else (Ao31 : Option Addr).map (·.add ((1 : Int).toNat * 1))) := ⟨_, rfl⟩
                  obtain ⟨c32, hc32⟩ : ∃ c1, c1 = co31 - (1 : Int).toNat := ⟨_, rfl⟩
                  have hy32 : y220.length = x6_2.length - (1 : Int).toNat := (by rw [Ny220.out, List.length_drop])
                  rw [← Ny220.out] at hr32
                  rw [← hy32, ← hA32, ← hc32] at hcut32
                  replace hr32 : Kd.Q (Kd.int .i64) 3 wr w.heap.size (fun k_ => some k_ ≠ (.slice (some ⟨go5, 0, none⟩) x5_2.length co5 : Value).ownBlock) (.slice A32 y220.length c32) y220 := (by rw [hA32, hc32, hy32]; exact hr32)
                  have HE32 : Aside0 ((Value.slice A32 y220.length c32).ownBlock = (.slice Ao31 x6_2.length co31 : Value).ownBlock) := ⟨by rw [hA32]; split <;> (cases (Ao31 : Option Addr) <;> rfl)⟩
                  clear hy32 hi032 hsz32 HO_6 hA32 hc32
                  have HO222 := Aside0.mk hr32
                  clear hr32
                  replace q32 := eq_true q32
                  have n_ := Aside0.mk (Kd.R_mono (ok' := fun k_ => some k_ ≠ (.slice A32 y220.length c32 : Value).ownBlock) HO_5.out (fun k_ hk => (by rw [HE32.out]; exact hk)))
                  clear HO_5
                  have HO_5 := n_
                  clear n_
                  go_wp2
                  (try simp only [← hl5_1, ← hl5_2])
                  go_roundg k2
                  case measure => have := HK1.out; have := HK2.out; omega
                  case rel => exact ⟨(x5_2), (y220), H', ⟨by have := HK1.out; have := HK2.out; omega⟩, ⟨by (try simp only [hl5_1]); (try simp only [hl5_2]); (with_reducible repeat (first | apply Kd.R_alloc | apply Kd.R_drewN | apply Kd.R_drew)); exact HO_5.out⟩, ⟨by (try simp only [hl5_1]); (try simp only [hl5_2]); (with_reducible repeat (first | apply Kd.Q_alloc | apply Kd.Q_drewN | apply Kd.Q_drew)); exact HO222.out⟩, ⟨by repeat (first | (with_reducible first | exact HB.out | apply below_alloc | apply pw_below_drewN | apply below_drew1) | exact HB.out)⟩⟩
                · rw [if_neg c30] at H
                  exact absurd H (by simp)
        · rw [if_neg c14] at H
          have c14b0 : decide (0 < (x6_1.length : Int)) = false := decide_eq_false c14
          have c14b1 : decide (0 < x6_1.length) = false := decide_eq_false (by omega)
          clear c14
          obtain rfl := Option.some.inj H
          obtain ⟨Ao33, co33, eo33, _⟩ := Kd.Q_slice HO_6.out
          subst eo33
          go_wp2
          go_ret
          exact ⟨_, by first | rfl | (simp [errW_none, errW_some] <;> rfl) | (simp [*, errW_none, errW_some] <;> rfl), by (with_reducible repeat (first | apply Kd.R_alloc | apply Kd.R_drewN | apply Kd.R_drew)); exact Kd.R_mono HO_5.out (fun _ hk => trivial), by repeat (first | (with_reducible first | exact HB.out | apply below_alloc | apply pw_below_drewN | apply below_drew1) | exact HB.out)⟩
  · rw [if_neg c4] at H
    exact absurd H (by simp)

end Go.Proofs.Ytdbepjnapjjlcaa.GLNextWay
