-- Written by a program of this session (gprint.py), over the kit's print: not trusted: Lean checks it.
import Derived.Test.YtdbepjnapjjlcaaGLMostFlow0
namespace Go.Proofs.Ytdbepjnapjjlcaa.GLMostFlow
open Go.RowKit Go.Proofs.YtdbepjnapjjlcaaW.PrintWords Go.Proofs.YtdbepjnapjjlcaaW.PrintLast Go.Proofs.YtdbepjnapjjlcaaW.PrintMore Go.Proofs.YtdbepjnapjjlcaaW.PrintOwn
attribute [local go_sem] max2_int min2_int max_two min_two max_three min_three max_four min_four   -- for this text's walks alone
set_option linter.unusedVariables false
set_option linter.unusedSimpArgs false

/-! ### spec_l13Value: function 39 -/
def spec_l13Value.l0 : Nat → List (List Int) → Int → Int → Int → Option (Int)
  | 0, _, _, _, _ => none
  | k + 1, x0, x3, x6, x7 => if x7 < x6 then (if 0 < (x0.length : Int) then (if 0 ≤ x7 then (if x7 < ((rd_L1 x0 0).length : Int) then (if x7 < (x0.length : Int) then (if 0 < ((rd_L1 x0 x7).length : Int) then (spec_l13Value.l0 k x0 (wrap64 (x3 + (wrap64 ((rd (rd_L1 x0 0) x7) - (rd (rd_L1 x0 x7) 0))))) x6 (wrap64 (x7 + 1))) else (none)) else (none)) else (none)) else (none)) else (none)) else (some x3)
def spec_l13Value.f (k : Nat) (l0 : List (List Int)) : Option (Int) := spec_l13Value.l0 k l0 0 (l0.length : Int) 0
theorem spec_l13Value.mono_l : ∀ k, (∀ y0 y1 y2 y3, LeO (spec_l13Value.l0 k y0 y1 y2 y3) (spec_l13Value.l0 (k + 1) y0 y1 y2 y3))
  | 0 => fun _ _ _ _ r h => by simp [spec_l13Value.l0] at h
  | k + 1 => by
    have ih0 := spec_l13Value.mono_l k
    · intro y0 y1 y2 y3
      unfold spec_l13Value.l0
      repeat' first
      | (with_reducible exact ih0 _ _ _ _)
      | (with_reducible exact LeO.refl _)
      | (with_reducible exact LeO.none _)
      | (with_reducible refine LeO.ite ?_ ?_)
      | (with_reducible refine LeO.bind ?_ (fun _ => ?_))
      | exact ih0 _ _ _ _
      | exact LeO.none _
      | refine LeO.ite ?_ ?_
      | refine LeO.bind ?_ (fun _ => ?_)
theorem spec_l13Value.mono : ∀ a0 k, LeO (spec_l13Value.f k a0) (spec_l13Value.f (k + 1) a0) := by
  intro a0 k
  have ih0 := spec_l13Value.mono_l k
  unfold spec_l13Value.f
  repeat' first
      | (with_reducible exact ih0 _ _ _ _)
      | (with_reducible exact LeO.refl _)
      | (with_reducible exact LeO.none _)
      | (with_reducible refine LeO.ite ?_ ?_)
      | (with_reducible refine LeO.bind ?_ (fun _ => ?_))
      | exact ih0 _ _ _ _
      | exact LeO.none _
      | refine LeO.ite ?_ ?_
      | refine LeO.bind ?_ (fun _ => ?_)
set_option maxHeartbeats 8000000 in
set_option maxRecDepth 100000 in
theorem spec_l13Value.calls (k : Nat) (A0 : Option Addr) (c0 : Nat) (l0 : List (List Int)) (r : Int) (w : World) (hr0 : Kd.C (Kd.slice 3 (Kd.int .i64)) w A0 l0.length l0) (hc0 : l0.length ≤ c0) (h : spec_l13Value.f k l0 = some r) :
    Calls Try.prog 39 #[.slice A0 l0.length c0] w fun e w' => e = .returned (.int .i64 r) ∧ Drawn0 w w' := by
  have HR0 := Aside0.mk hr0
  have HC0 := Aside0.mk hc0
  clear hr0 hc0
  have H : (spec_l13Value.l0 k l0 0 (l0.length : Int) 0) = some r := h
  clear h
  have H' := Aside0.mk H
  clear H
  go_enter Try.func39, Try.ntmps39
  go_wp2
  repeat (go_quiet (fail); try go_wp2)
  go_loopg [3, 7] k (fun kq v3 v7 w' => ∃ (x3_1 : Int) (x7_1 : Int), v3 = .int .i64 x3_1 ∧ v7 = .int .i64 x7_1 ∧ Aside0 (spec_l13Value.l0 kq l0 x3_1 (l0.length : Int) x7_1 = some r) ∧ Aside0 (kq ≤ k) ∧ Drawn0 w w')
  case atStart => exact ⟨(0), (0), (by first | rfl | (simp; done) | (simp [*]; done)), (by first | rfl | (simp; done) | (simp [*]; done)), H', ⟨Nat.le_refl _⟩, by repeat (first | exact Drawn0.refl _ | apply Drawn0.step)⟩
  case round =>
    clear H'
    obtain ⟨x3_1, x7_1, rfl, rfl, HA, HK1, ⟨m1, rfl⟩⟩ := hrel
    cases gk with
    | zero => exact absurd HA.out (by simp [spec_l13Value.l0])
    | succ k1 =>
      have H := HA.out
      clear HA
      simp only [spec_l13Value.l0] at H
      by_cases c2 : x7_1 < (l0.length : Int)
      · rw [if_pos c2] at H
        have c2b0 : decide (x7_1 < (l0.length : Int)) = true := decide_eq_true c2
        clear c2
        by_cases c3 : 0 < (l0.length : Int)
        · rw [if_pos c3] at H
          have c3b0 : decide (0 < (l0.length : Int)) = true := decide_eq_true c3
          have c3b1 : decide (0 < l0.length) = true := decide_eq_true (by omega)
          clear c3
          by_cases c4 : 0 ≤ x7_1
          · rw [if_pos c4] at H
            have c4b0 : decide (0 ≤ x7_1) = true := decide_eq_true c4
            clear c4
            by_cases c5 : x7_1 < ((rd_L1 l0 0).length : Int)
            · rw [if_pos c5] at H
              have c5b0 : decide (x7_1 < ((rd_L1 l0 0).length : Int)) = true := decide_eq_true c5
              clear c5
              by_cases c6 : x7_1 < (l0.length : Int)
              · rw [if_pos c6] at H
                have c6b0 : decide (x7_1 < (l0.length : Int)) = true := decide_eq_true c6
                clear c6
                by_cases c7 : 0 < ((rd_L1 l0 x7_1).length : Int)
                · rw [if_pos c7] at H
                  have c7b0 : decide (0 < ((rd_L1 l0 x7_1).length : Int)) = true := decide_eq_true c7
                  have c7b1 : decide (0 < (rd_L1 l0 x7_1).length) = true := decide_eq_true (by omega)
                  clear c7
                  have H' := Aside0.mk H
                  clear H
                  have p133 : 0 ≤ (0 : Int) := (by omega)
                  have q133 : 0 < (l0.length : Int) := of_decide_eq_true (by first | (with_reducible assumption) | assumption)
                  obtain ⟨ad133, A133_0, c133_0, e133, hx133_0, hl133_0, hi133_0⟩ := at_L1 HR0.out 0 p133 q133
                  cases e133
                  have qi133 : (0 < l0.length) = True := eq_true (by omega)
                  (try rw [show ((0 : Int)).toNat = 0 from rfl] at hx133_0)
                  (try rw [Addr.add_zero'] at hx133_0)
                  have HR133_0 := Aside0.mk hi133_0
                  have HC133_0 := Aside0.mk hl133_0
                  clear hi133_0 hl133_0
                  replace p133 := eq_true p133
                  replace q133 := eq_true q133
                  have p134 : 0 ≤ (x7_1 : Int) := of_decide_eq_true (by first | (with_reducible assumption) | assumption)
                  have q134 : x7_1 < ((rd_L1 l0 0).length : Int) := of_decide_eq_true (by first | (with_reducible assumption) | assumption)
                  obtain ⟨ad134, e134, hx134_0⟩ := Kd.at_int HR133_0.out x7_1 p134 q134
                  cases e134
                  replace p134 := eq_true p134
                  replace q134 := eq_true q134
                  have p135 : 0 ≤ (x7_1 : Int) := of_decide_eq_true (by first | (with_reducible assumption) | assumption)
                  have q135 : x7_1 < (l0.length : Int) := of_decide_eq_true (by first | (with_reducible assumption) | assumption)
                  obtain ⟨ad135, A135_0, c135_0, e135, hx135_0, hl135_0, hi135_0⟩ := at_L1 HR0.out x7_1 p135 q135
                  obtain rfl : ad133 = ad135 := (by injection e135)
                  have HR135_0 := Aside0.mk hi135_0
                  have HC135_0 := Aside0.mk hl135_0
                  clear hi135_0 hl135_0
                  replace p135 := eq_true p135
                  replace q135 := eq_true q135
                  have p136 : 0 ≤ (0 : Int) := (by omega)
                  have q136 : 0 < ((rd_L1 l0 x7_1).length : Int) := of_decide_eq_true (by first | (with_reducible assumption) | assumption)
                  obtain ⟨ad136, e136, hx136_0⟩ := Kd.at_int HR135_0.out 0 p136 q136
                  cases e136
                  have qi136 : (0 < (rd_L1 l0 x7_1).length) = True := eq_true (by omega)
                  (try rw [show ((0 : Int)).toNat = 0 from rfl] at hx136_0)
                  (try rw [Addr.add_zero'] at hx136_0)
                  replace p136 := eq_true p136
                  replace q136 := eq_true q136
                  go_wp2
                  repeat (go_quiet (fail); try go_wp2)
                  go_roundg k1
                  case measure => have := HK1.out; omega
                  case rel => exact ⟨(wrap64 (x3_1 + (wrap64 ((rd (rd_L1 l0 0) x7_1) - (rd (rd_L1 l0 x7_1) 0))))), (wrap64 (x7_1 + 1)), (by first | rfl | (simp; done) | (simp [*]; done)), (by first | rfl | (simp; done) | (simp [*]; done)), H', ⟨by have := HK1.out; omega⟩, by repeat (first | exact Drawn0.refl _ | apply Drawn0.step)⟩
                · rw [if_neg c7] at H
                  exact absurd H (by simp)
              · rw [if_neg c6] at H
                exact absurd H (by simp)
            · rw [if_neg c5] at H
              exact absurd H (by simp)
          · rw [if_neg c4] at H
            exact absurd H (by simp)
        · rw [if_neg c3] at H
          exact absurd H (by simp)
      · rw [if_neg c2] at H
        have c2b0 : decide (x7_1 < (l0.length : Int)) = false := decide_eq_false c2
        clear c2
        obtain rfl := Option.some.inj H
        go_wp2
        repeat (go_quiet (fail); try go_wp2)
        go_ret
        exact ⟨by first | rfl | (simp; done) | (simp [*]; done), by repeat (first | exact Drawn0.refl _ | apply Drawn0.step)⟩

/-! ### spec_l13Room: function 47 -/
def spec_l13Room.f (l0 : List (List Int)) (l1 : List (List Int)) (a2 : Int) (a3 : Int) : Option (Int) := if 0 ≤ a2 then (if a2 < (l0.length : Int) then (if 0 ≤ a3 then (if a3 < ((rd_L1 l0 a2).length : Int) then (if a2 < (l1.length : Int) then (if a3 < ((rd_L1 l1 a2).length : Int) then (if a3 < (l1.length : Int) then (if a2 < ((rd_L1 l1 a3).length : Int) then (some (wrap64 ((wrap64 ((rd (rd_L1 l0 a2) a3) - (rd (rd_L1 l1 a2) a3))) + (rd (rd_L1 l1 a3) a2)))) else (none)) else (none)) else (none)) else (none)) else (none)) else (none)) else (none)) else (none)
set_option maxHeartbeats 8000000 in
set_option maxRecDepth 100000 in
theorem spec_l13Room.calls (A0 : Option Addr) (c0 : Nat) (l0 : List (List Int)) (A1 : Option Addr) (c1 : Nat) (l1 : List (List Int)) (a2 : Int) (a3 : Int) (r : Int) (w : World) (hr0 : Kd.C (Kd.slice 3 (Kd.int .i64)) w A0 l0.length l0) (hc0 : l0.length ≤ c0) (hr1 : Kd.C (Kd.slice 3 (Kd.int .i64)) w A1 l1.length l1) (hc1 : l1.length ≤ c1) (h : spec_l13Room.f l0 l1 a2 a3 = some r) :
    Calls Try.prog 47 #[.slice A0 l0.length c0, .slice A1 l1.length c1, .int .i64 a2, .int .i64 a3] w fun e w' => e = .returned (.int .i64 r) ∧ Drawn0 w w' := by
  have HR0 := Aside0.mk hr0
  have HC0 := Aside0.mk hc0
  clear hr0 hc0
  have HR1 := Aside0.mk hr1
  have HC1 := Aside0.mk hc1
  clear hr1 hc1
  have H : (if 0 ≤ a2 then (if a2 < (l0.length : Int) then (if 0 ≤ a3 then (if a3 < ((rd_L1 l0 a2).length : Int) then (if a2 < (l1.length : Int) then (if a3 < ((rd_L1 l1 a2).length : Int) then (if a3 < (l1.length : Int) then (if a2 < ((rd_L1 l1 a3).length : Int) then (some (wrap64 ((wrap64 ((rd (rd_L1 l0 a2) a3) - (rd (rd_L1 l1 a2) a3))) + (rd (rd_L1 l1 a3) a2)))) else (none)) else (none)) else (none)) else (none)) else (none)) else (none)) else (none)) else (none)) = some r := h
  clear h
  by_cases c5 : 0 ≤ a2
  · rw [if_pos c5] at H
    have c5b0 : decide (0 ≤ a2) = true := decide_eq_true c5
    clear c5
    by_cases c6 : a2 < (l0.length : Int)
    · rw [if_pos c6] at H
      have c6b0 : decide (a2 < (l0.length : Int)) = true := decide_eq_true c6
      clear c6
      by_cases c7 : 0 ≤ a3
      · rw [if_pos c7] at H
        have c7b0 : decide (0 ≤ a3) = true := decide_eq_true c7
        clear c7
        by_cases c8 : a3 < ((rd_L1 l0 a2).length : Int)
        · rw [if_pos c8] at H
          have c8b0 : decide (a3 < ((rd_L1 l0 a2).length : Int)) = true := decide_eq_true c8
          clear c8
          by_cases c9 : a2 < (l1.length : Int)
          · rw [if_pos c9] at H
            have c9b0 : decide (a2 < (l1.length : Int)) = true := decide_eq_true c9
            clear c9
            by_cases c10 : a3 < ((rd_L1 l1 a2).length : Int)
            · rw [if_pos c10] at H
              have c10b0 : decide (a3 < ((rd_L1 l1 a2).length : Int)) = true := decide_eq_true c10
              clear c10
              by_cases c11 : a3 < (l1.length : Int)
              · rw [if_pos c11] at H
                have c11b0 : decide (a3 < (l1.length : Int)) = true := decide_eq_true c11
                clear c11
                by_cases c12 : a2 < ((rd_L1 l1 a3).length : Int)
                · rw [if_pos c12] at H
                  have c12b0 : decide (a2 < ((rd_L1 l1 a3).length : Int)) = true := decide_eq_true c12
                  clear c12
                  obtain rfl := Option.some.inj H
                  have p137 : 0 ≤ (a2 : Int) := of_decide_eq_true (by first | (with_reducible assumption) | assumption)
                  have q137 : a2 < (l0.length : Int) := of_decide_eq_true (by first | (with_reducible assumption) | assumption)
                  obtain ⟨ad137, A137_0, c137_0, e137, hx137_0, hl137_0, hi137_0⟩ := at_L1 HR0.out a2 p137 q137
                  cases e137
                  have HR137_0 := Aside0.mk hi137_0
                  have HC137_0 := Aside0.mk hl137_0
                  clear hi137_0 hl137_0
                  replace p137 := eq_true p137
                  replace q137 := eq_true q137
                  have p138 : 0 ≤ (a3 : Int) := of_decide_eq_true (by first | (with_reducible assumption) | assumption)
                  have q138 : a3 < ((rd_L1 l0 a2).length : Int) := of_decide_eq_true (by first | (with_reducible assumption) | assumption)
                  obtain ⟨ad138, e138, hx138_0⟩ := Kd.at_int HR137_0.out a3 p138 q138
                  cases e138
                  replace p138 := eq_true p138
                  replace q138 := eq_true q138
                  have p139 : 0 ≤ (a2 : Int) := of_decide_eq_true (by first | (with_reducible assumption) | assumption)
                  have q139 : a2 < (l1.length : Int) := of_decide_eq_true (by first | (with_reducible assumption) | assumption)
                  obtain ⟨ad139, A139_0, c139_0, e139, hx139_0, hl139_0, hi139_0⟩ := at_L1 HR1.out a2 p139 q139
                  cases e139
                  have HR139_0 := Aside0.mk hi139_0
                  have HC139_0 := Aside0.mk hl139_0
                  clear hi139_0 hl139_0
                  replace p139 := eq_true p139
                  replace q139 := eq_true q139
                  have p140 : 0 ≤ (a3 : Int) := of_decide_eq_true (by first | (with_reducible assumption) | assumption)
                  have q140 : a3 < ((rd_L1 l1 a2).length : Int) := of_decide_eq_true (by first | (with_reducible assumption) | assumption)
                  obtain ⟨ad140, e140, hx140_0⟩ := Kd.at_int HR139_0.out a3 p140 q140
                  cases e140
                  replace p140 := eq_true p140
                  replace q140 := eq_true q140
                  have p141 : 0 ≤ (a3 : Int) := of_decide_eq_true (by first | (with_reducible assumption) | assumption)
                  have q141 : a3 < (l1.length : Int) := of_decide_eq_true (by first | (with_reducible assumption) | assumption)
                  obtain ⟨ad141, A141_0, c141_0, e141, hx141_0, hl141_0, hi141_0⟩ := at_L1 HR1.out a3 p141 q141
                  obtain rfl : ad139 = ad141 := (by injection e141)
                  have HR141_0 := Aside0.mk hi141_0
                  have HC141_0 := Aside0.mk hl141_0
                  clear hi141_0 hl141_0
                  replace p141 := eq_true p141
                  replace q141 := eq_true q141
                  have p142 : 0 ≤ (a2 : Int) := of_decide_eq_true (by first | (with_reducible assumption) | assumption)
                  have q142 : a2 < ((rd_L1 l1 a3).length : Int) := of_decide_eq_true (by first | (with_reducible assumption) | assumption)
                  obtain ⟨ad142, e142, hx142_0⟩ := Kd.at_int HR141_0.out a2 p142 q142
                  cases e142
                  replace p142 := eq_true p142
                  replace q142 := eq_true q142
                  go_enter Try.func47, Try.ntmps47
                  go_wp2
                  repeat (go_quiet (fail); try go_wp2)
                  go_ret
                  exact ⟨by first | rfl | (simp; done) | (simp [*]; done), by repeat (first | exact Drawn0.refl _ | apply Drawn0.step)⟩
                · rw [if_neg c12] at H
                  exact absurd H (by simp)
              · rw [if_neg c11] at H
                exact absurd H (by simp)
            · rw [if_neg c10] at H
              exact absurd H (by simp)
          · rw [if_neg c9] at H
            exact absurd H (by simp)
        · rw [if_neg c8] at H
          exact absurd H (by simp)
      · rw [if_neg c7] at H
        exact absurd H (by simp)
    · rw [if_neg c6] at H
      exact absurd H (by simp)
  · rw [if_neg c5] at H
    exact absurd H (by simp)

/-! ### spec_l13Push: function 49 -/
/-- A store into a row of rows of the call's own: what lies there, and the rows behind it. -/
theorem spec_l13Push.put {W : World} {base n cap : Nat} {ok : Nat → Prop} {ad : Addr} {xs : List (List Int)} (HS : Kd.S (Kd.slice 3 (Kd.int .i64)) 31 W base ok (.slice (some ad) n cap) xs) (i j : Int) (hi0 : 0 ≤ i) (hi1 : i < (xs.length : Int)) (hj0 : 0 ≤ j) (hj1 : j < ((rd_L1 xs i).length : Int)) :
    ∃ g ci, W.cell? (ad.add i.toNat) = some (.slice (some ⟨g, 0, none⟩) (rd_L1 xs i).length ci) ∧ W.cell? ⟨g, j.toNat, none⟩ = some (.int .i64 (rd (rd_L1 xs i) j)) ∧ W.frozen? ⟨g, j.toNat, none⟩ = false ∧ (ok g ∧ base ≤ g) ∧ ∀ v, Kd.S (Kd.slice 3 (Kd.int .i64)) 31 (W.setCell ⟨g, j.toNat, none⟩ (.int .i64 v)) base ok (.slice (some ad) n cap) (xs.set i.toNat ((rd_L1 xs i).set j.toNat v)) := by
  obtain ⟨hn, _, _⟩ := Kd.S_reads' HS
  obtain ⟨oki, c, hcl, hM, hcc, hoki, hback⟩ := Kd.S_borrow HS [] i hi0 (by omega)
  obtain ⟨v0, rfl, hR⟩ := hM
  have hR' : Kd.R (Kd.int .i64) 3 W base oki v0 (rd_L1 xs i) := hR
  have hx := hcc 0 v0 rfl
  rw [Nat.add_zero, show ((Kd.slice 3 (Kd.int .i64))).sz = 1 from rfl, Nat.mul_one] at hx
  obtain ⟨g, ci, rfl, hb, hl, hG⟩ := Kd.R_form hR' (by omega)
  obtain ⟨h1, h2⟩ := Kd.R_celln 0 hR' j hj0 hj1
  have hg : oki g := hR'.1 g (by simp [Value.ownBlock])
  refine ⟨g, ci, hx, h1, h2, ⟨(hoki g hg).1, hb⟩, fun v => ?_⟩
  have hp := Kd.R_putg hR' j v
  exact hback hp.2 (fun k hk => by injection hk with hk; rw [← hk]; exact hg) ⟨_, rfl, hp.1⟩
def spec_l13Push.by_ (l0 l1 : List (List Int)) (l2 : List Int) : Nat → Nat → Int → Option Int
  | 0, _, b => some b
  | m + 1, i, b => (spec_l13Room.f l0 l1 (rd l2 ((i : Int) - 1)) (rd l2 (i : Int))).bind fun r => spec_l13Push.by_ l0 l1 l2 m (i + 1) (if r < b then r else b)
def spec_l13Push.back (F : List (List Int)) (a b m : Int) : Int := if rd (rd_L1 F b) a > m then m else rd (rd_L1 F b) a
def spec_l13Push.one (F : List (List Int)) (a b m : Int) : List (List Int) := F.set b.toNat ((rd_L1 F b).set a.toNat (wrap64 (rd (rd_L1 F b) a - spec_l13Push.back F a b m)))
def spec_l13Push.two (F : List (List Int)) (a b m : Int) : List (List Int) := (spec_l13Push.one F a b m).set a.toNat ((rd_L1 (spec_l13Push.one F a b m) a).set b.toNat (wrap64 (rd (rd_L1 (spec_l13Push.one F a b m) a) b + wrap64 (m - spec_l13Push.back F a b m))))
def spec_l13Push.put_ (l2 : List Int) (mu : Int) : Nat → Nat → List (List Int) → Option (List (List Int))
  | 0, _, F => some F
  | m + 1, i, F => if ((0 ≤ rd l2 (i : Int) ∧ rd l2 (i : Int) < (F.length : Int)) ∧ (0 ≤ rd l2 ((i : Int) - 1) ∧ rd l2 ((i : Int) - 1) < ((rd_L1 F (rd l2 (i : Int))).length : Int))) ∧ (rd l2 ((i : Int) - 1) < (F.length : Int) ∧ rd l2 (i : Int) < ((rd_L1 (spec_l13Push.one F (rd l2 ((i : Int) - 1)) (rd l2 (i : Int)) mu) (rd l2 ((i : Int) - 1))).length : Int)) then spec_l13Push.put_ l2 mu m (i + 1) (spec_l13Push.two F (rd l2 ((i : Int) - 1)) (rd l2 (i : Int)) mu) else none
def spec_l13Push.g (l0 l1 : List (List Int)) (l2 : List Int) : Option (Int × List (List Int)) := (spec_l13Push.by_ l0 l1 l2 (l2.length - 1) 1 100).bind fun b => (spec_l13Push.put_ l2 b (l2.length - 1) 1 l1).bind fun F => some (b, F)
set_option maxHeartbeats 8000000 in
set_option maxRecDepth 100000 in
theorem spec_l13Push.pushes (A0 : Option Addr) (c0 : Nat) (l0 : List (List Int)) (P0_ : Nat → Prop) (u : Value) (l1 : List (List Int)) (A2 : Option Addr) (c2 : Nat) (l2 : List Int) (mu : Int) (r : List (List Int)) (w0 w : World) (hB : Below w0.heap.size w0 w) (hr0 : Kd.C (Kd.slice 3 (Kd.int .i64)) w0 A0 l0.length l0) (hc0 : l0.length ≤ c0)
    (ho1 : Kd.S (Kd.slice 3 (Kd.int .i64)) 31 w w0.heap.size P0_ u l1) (hne : 0 < l1.length) (hr2 : ∀ W', Kept w W' P0_ → Kd.C (Kd.int .i64) W' A2 l2.length l2) (h : spec_l13Push.g l0 l1 l2 = some (mu, r)) :
    Calls Try.prog 49 #[.slice A0 l0.length c0, u, .slice A2 l2.length c2] w fun e w' => e = .returned (.int .i64 mu) ∧ Kd.S (Kd.slice 3 (Kd.int .i64)) 31 w' w0.heap.size P0_ u r ∧ Below w0.heap.size w0 w' ∧ Kept w w' P0_ := by
  unfold spec_l13Push.g at h
  replace h := Option.bind_eq_some_iff.mp h
  obtain ⟨mu', hmu, h⟩ := h
  replace h := Option.bind_eq_some_iff.mp h
  obtain ⟨r', hr, h⟩ := h
  simp only [Option.some.injEq, Prod.mk.injEq] at h
  obtain ⟨rfl, rfl⟩ := h
  obtain ⟨g1, c1, rfl, hg1b, hg1l, _⟩ := Kd.S_form ho1 hne
  have hm2 := Kd.C_max (hr2 w (Kept.refl w P0_))
  have HM := Aside0.mk (show l2.length ≤ 9223372036854775807 by first | omega | (unfold maxLen at hm2; omega))
  have HR0 := Aside0.mk hr0
  have HC0 := Aside0.mk hc0
  have HR2 := Aside0.mk hr2
  have HS := Aside0.mk ho1
  have HB := Aside0.mk hB
  have HMU := Aside0.mk hmu
  have HPU := Aside0.mk hr
  have HK := Aside0.mk (Kept.refl w P0_)
  have HC1 := Aside0.mk (Kd.S_reads' ho1).2.1
  have HNE := Aside0.mk hne
  clear hr0 hc0 hr2 ho1 hB hmu hr hm2 hg1b hg1l hne
  go_enter Try.func49, Try.ntmps49
  go_wp2
  go_loopg [7, 8] (l2.length + 1) (fun gk v7 v8 w' => ∃ (m i : Nat) (b : Int), v7 = .int .i64 b ∧ v8 = .int .i64 (i : Int) ∧ Aside0 (1 ≤ i ∧ (l2.length ≤ i ∧ m = 0 ∨ i + m = l2.length) ∧ m < gk) ∧ Aside0 (spec_l13Push.by_ l0 l1 l2 m i b = some mu') ∧ Aside0 (Kd.S (Kd.slice 3 (Kd.int .i64)) 31 w' w0.heap.size P0_ (.slice (some ⟨g1, 0, none⟩) l1.length c1) l1) ∧ Aside0 (Below w0.heap.size w0 w') ∧ Aside0 (Kept w w' P0_))
  case atStart => exact ⟨l2.length - 1, 1, 100, rfl, rfl, ⟨by omega, by omega, by omega⟩, HMU, HS, HB, HK⟩
  case round =>
    clear HMU HS HB HK
    obtain ⟨m, i, b, rfl, rfl, HI, HMU, HS, HB, HK⟩ := hrel
    cases m with
    | zero =>
      have hmu := HMU.out
      rw [spec_l13Push.by_] at hmu
      obtain rfl := Option.some.inj hmu
      clear hmu HMU
      have d1 : decide ((i : Int) < (l2.length : Int)) = false := decide_eq_false (by have := HI.out; omega)
      have d2 : ((i : Int) < (l2.length : Int)) = False := eq_false (by have := HI.out; omega)
      have d3 : decide (i < l2.length) = false := decide_eq_false (by have := HI.out; omega)
      have d4 : (i < l2.length) = False := eq_false (by have := HI.out; omega)
      clear HI
      go_wp2
      clear d1 d2 d3 d4
      go_loopg [10] (l2.length + 1) (fun gk v10 w' => ∃ (m i : Nat) (F : List (List Int)), v10 = .int .i64 (i : Int) ∧ Aside0 (1 ≤ i ∧ (l2.length ≤ i ∧ m = 0 ∨ i + m = l2.length) ∧ m < gk) ∧ Aside0 (F.length = l1.length ∧ spec_l13Push.put_ l2 b m i F = some r') ∧ Aside0 (Kd.S (Kd.slice 3 (Kd.int .i64)) 31 w' w0.heap.size P0_ (.slice (some ⟨g1, 0, none⟩) l1.length c1) F) ∧ Aside0 (Below w0.heap.size w0 w') ∧ Aside0 (Kept w w' P0_))
      case atStart => exact ⟨l2.length - 1, 1, l1, rfl, ⟨by omega, by omega, by omega⟩, ⟨rfl, HPU.out⟩, HS, HB, HK⟩
      case round =>
        clear HPU HS HB HK
        obtain ⟨m, j, F, rfl, HI, HPU, HS, HB, HK⟩ := hrel
        cases m with
        | zero =>
          have hpu := HPU.out.2
          rw [spec_l13Push.put_] at hpu
          obtain rfl := Option.some.inj hpu
          clear hpu HPU
          have d1 : decide ((j : Int) < (l2.length : Int)) = false := decide_eq_false (by have := HI.out; omega)
          have d2 : ((j : Int) < (l2.length : Int)) = False := eq_false (by have := HI.out; omega)
          have d3 : decide (j < l2.length) = false := decide_eq_false (by have := HI.out; omega)
          have d4 : (j < l2.length) = False := eq_false (by have := HI.out; omega)
          clear HI
          go_wp2
          go_ret
          exact ⟨rfl, HS.out, HB.out, HK.out⟩
        | succ m =>
          have hpu := HPU.out.2
          rw [spec_l13Push.put_] at hpu
          split at hpu
          case isFalse => cases hpu
          case isTrue hq =>
          have HFL := Aside0.mk HPU.out.1
          have HJ := Aside0.mk (show 1 ≤ j ∧ j + 1 + m = l2.length ∧ m + 1 < gk by have := HI.out; omega)
          have HPUT := Aside0.mk hpu
          clear hpu HPU HI
          have d1 : decide ((j : Int) < (l2.length : Int)) = true := decide_eq_true (by have := HJ.out; omega)
          have d2 : ((j : Int) < (l2.length : Int)) = True := eq_true (by have := HJ.out; omega)
          have d3 : decide (j < l2.length) = true := decide_eq_true (by have := HJ.out; omega)
          have d4 : (j < l2.length) = True := eq_true (by have := HJ.out; omega)
          have d5 : decide (0 ≤ (j : Int)) = true := decide_eq_true (by omega)
          have d6 : (0 ≤ (j : Int)) = True := eq_true (by omega)
          have d7 : decide (0 ≤ (j : Int) - 1) = true := decide_eq_true (by have := HJ.out; omega)
          have d8 : (0 ≤ (j : Int) - 1) = True := eq_true (by have := HJ.out; omega)
          have d9 : decide ((j : Int) - 1 < (l2.length : Int)) = true := decide_eq_true (by have := HJ.out; omega)
          have d10 : ((j : Int) - 1 < (l2.length : Int)) = True := eq_true (by have := HJ.out; omega)
          have d11 : (1 ≤ (j : Int)) = True := eq_true (by have := HJ.out; omega)
          have d12 : decide (1 ≤ (j : Int)) = true := decide_eq_true (by have := HJ.out; omega)
          have e1 : IntKind.i64.wrap ((j : Int) - 1) = (j : Int) - 1 := IntWalk.i64_in _ (by have := HJ.out; have := HM.out; omega)
          obtain ⟨ad2, ea2, hx2⟩ := Kd.at_int (HR2.out _ HK.out) ((j : Int) - 1) (by have := HJ.out; omega) (by have := HJ.out; omega)
          cases ea2
          obtain ⟨ad3, ea3, hx3⟩ := Kd.at_int (HR2.out _ HK.out) (j : Int) (by omega) (by have := HJ.out; omega)
          obtain rfl : ad2 = ad3 := by injection ea3
          clear ea3
          rw [show ((j : Int) - 1).toNat = j - 1 by omega] at hx2
          rw [Int.toNat_natCast] at hx3
          generalize hA : rd l2 ((j : Int) - 1) = a at hq HPUT hx2
          generalize hB_ : rd l2 (j : Int) = c at hq HPUT hx3
          have HA := Aside0.mk hA
          have HB_ := Aside0.mk hB_
          have HQ := Aside0.mk hq
          obtain ⟨⟨⟨q1, q2⟩, ⟨q3, q4⟩⟩, ⟨q5, q6⟩⟩ := hq
          obtain ⟨gr, cr, hc1, hc2, hc3, hc4, hput⟩ := spec_l13Push.put HS.out c a q1 q2 q3 q4
          have HX := Aside0.mk hc1
          have HY := Aside0.mk hc2
          have HZ := Aside0.mk hc4
          have HP := Aside0.mk hput
          have p1 : decide (0 ≤ c) = true := decide_eq_true q1
          have p2 : (0 ≤ c) = True := eq_true q1
          have p3 : decide (c < (F.length : Int)) = true := decide_eq_true q2
          have p4 : (c < (F.length : Int)) = True := eq_true q2
          have p3' : decide (c < (l1.length : Int)) = true := decide_eq_true (by have := HFL.out; omega)
          have p4' : (c < (l1.length : Int)) = True := eq_true (by have := HFL.out; omega)
          have p5 : decide (0 ≤ a) = true := decide_eq_true q3
          have p6 : (0 ≤ a) = True := eq_true q3
          have p7 : decide (a < ((rd_L1 F c).length : Int)) = true := decide_eq_true q4
          have p8 : (a < ((rd_L1 F c).length : Int)) = True := eq_true q4
          have p9' : decide (a < (l1.length : Int)) = true := decide_eq_true (by have := HFL.out; omega)
          have p10' : (a < (l1.length : Int)) = True := eq_true (by have := HFL.out; omega)
          have p11 : decide (c < ((rd_L1 (spec_l13Push.one F a c b) a).length : Int)) = true := decide_eq_true q6
          have p12 : (c < ((rd_L1 (spec_l13Push.one F a c b) a).length : Int)) = True := eq_true q6
          clear hput q1 q2 q3 q4 q5 q6 hA hB_ hc4
          have HLO := Aside0.mk (show (spec_l13Push.one F a c b).length = F.length by unfold spec_l13Push.one; rw [List.length_set])
          have hup : wrap64 ((j : Int) + 1) = ((j + 1 : Nat) : Int) := by have := HJ.out; have := HM.out; unfold wrap64; omega
          have HUP := Aside0.mk hup
          clear hup
          (first | simp only [add_plain] at hc1 | skip)
          by_cases cb : rd (rd_L1 F c) a > b
          · have k1 : decide (rd (rd_L1 F c) a > b) = true := decide_eq_true cb
            have k2 : decide (b < rd (rd_L1 F c) a) = true := decide_eq_true cb
            have HONE := Aside0.mk (show spec_l13Push.one F a c b = F.set c.toNat ((rd_L1 F c).set a.toNat (wrap64 (rd (rd_L1 F c) a - b))) by unfold spec_l13Push.one spec_l13Push.back; rw [if_pos cb])
            have HTWO := Aside0.mk (show spec_l13Push.two F a c b = (spec_l13Push.one F a c b).set a.toNat ((rd_L1 (spec_l13Push.one F a c b) a).set c.toNat (wrap64 (rd (rd_L1 (spec_l13Push.one F a c b) a) c))) by unfold spec_l13Push.two spec_l13Push.back; rw [if_pos cb, Int.sub_self, show wrap64 0 = 0 by unfold wrap64; omega, Int.add_zero])
            clear cb
            go_wp2_with (first | ((with_reducible refine gate_store (t := 3) (p := 71) rfl ?_); refine store_event (t := 3) (p := 71) (v := ?vo_) (w1 := (wr.setCell ⟨gr, a.toNat, none⟩ (.int .i64 (wrap64 (rd (rd_L1 F c) a - b))))) ?hg ?ho ?hn ?hr ?_; (case ho => rfl); (case hg => rfl); (case hn => rfl); (case hr => first | (go_simp; done) | (go_simp; rfl)); intro w2 hw; have HS2 := Aside0.mk (show Kd.S (Kd.slice 3 (Kd.int .i64)) 31 w2 w0.heap.size P0_ (.slice (some ⟨g1, 0, none⟩) l1.length c1) (spec_l13Push.one F a c b) from by rw [hw, HONE.out]; exact HP.out _); have HB2 := Aside0.mk (show Below w0.heap.size w0 w2 from by rw [hw]; exact below_set HB.out HZ.out.2); have HK2 := Aside0.mk (show Kept w w2 P0_ from by rw [hw]; exact Kept.setCell HK.out (.inl HZ.out.1) _); obtain ⟨gs, cs, hd1, hd2, hd3, hd4, hput2⟩ := spec_l13Push.put HS2.out a c HQ.out.1.2.1 (by have := HQ.out.2.1; have := HLO.out; omega) HQ.out.1.1.1 HQ.out.2.2; (first | simp only [add_plain] at hd1 | skip); have HZ2 := Aside0.mk hd4; have HP2 := Aside0.mk hput2; clear hput2 hd4 hw hc1 hc2 hc3))
            generalize hw : (w2.setCell ⟨gs, c.toNat, none⟩ (.int .i64 (wrap64 (rd (rd_L1 (spec_l13Push.one F a c b) a) c)))) = w3
            have HS3 := Aside0.mk (show Kd.S (Kd.slice 3 (Kd.int .i64)) 31 w3 w0.heap.size P0_ (.slice (some ⟨g1, 0, none⟩) l1.length c1) (spec_l13Push.two F a c b) from by rw [← hw, HTWO.out]; exact HP2.out _)
            have HB3 := Aside0.mk (show Below w0.heap.size w0 w3 from by rw [← hw]; exact below_set HB2.out HZ2.out.2)
            have HK3 := Aside0.mk (show Kept w w3 P0_ from by rw [← hw]; exact Kept.setCell HK2.out (.inl HZ2.out.1) _)
            clear hw hd1 hd2 hd3
            go_roundg (m + 1)
            case measure => have := HJ.out; omega
            case rel => exact ⟨m, j + 1, spec_l13Push.two F a c b, by first | rfl | (rw [← HUP.out]), ⟨by omega, by have := HJ.out; omega, by omega⟩, ⟨by rw [HTWO.out, List.length_set]; have := HLO.out; have := HFL.out; omega, HPUT.out⟩, HS3, HB3, HK3⟩
          · have k1 : decide (rd (rd_L1 F c) a > b) = false := decide_eq_false cb
            have k2 : decide (b < rd (rd_L1 F c) a) = false := decide_eq_false cb
            have HONE := Aside0.mk (show spec_l13Push.one F a c b = F.set c.toNat ((rd_L1 F c).set a.toNat 0) by unfold spec_l13Push.one spec_l13Push.back; rw [if_neg cb, Int.sub_self, show wrap64 0 = 0 by unfold wrap64; omega])
            have HTWO := Aside0.mk (show spec_l13Push.two F a c b = (spec_l13Push.one F a c b).set a.toNat ((rd_L1 (spec_l13Push.one F a c b) a).set c.toNat (wrap64 (rd (rd_L1 (spec_l13Push.one F a c b) a) c + wrap64 (b - rd (rd_L1 F c) a)))) by unfold spec_l13Push.two spec_l13Push.back; rw [if_neg cb])
            clear cb
            go_wp2_with (first | ((with_reducible refine gate_store (t := 3) (p := 71) rfl ?_); refine store_event (t := 3) (p := 71) (v := ?vo_) (w1 := (wr.setCell ⟨gr, a.toNat, none⟩ (.int .i64 0))) ?hg ?ho ?hn ?hr ?_; (case ho => rfl); (case hg => rfl); (case hn => rfl); (case hr => first | (go_simp; done) | (go_simp; rfl)); intro w2 hw; have HS2 := Aside0.mk (show Kd.S (Kd.slice 3 (Kd.int .i64)) 31 w2 w0.heap.size P0_ (.slice (some ⟨g1, 0, none⟩) l1.length c1) (spec_l13Push.one F a c b) from by rw [hw, HONE.out]; exact HP.out _); have HB2 := Aside0.mk (show Below w0.heap.size w0 w2 from by rw [hw]; exact below_set HB.out HZ.out.2); have HK2 := Aside0.mk (show Kept w w2 P0_ from by rw [hw]; exact Kept.setCell HK.out (.inl HZ.out.1) _); obtain ⟨gs, cs, hd1, hd2, hd3, hd4, hput2⟩ := spec_l13Push.put HS2.out a c HQ.out.1.2.1 (by have := HQ.out.2.1; have := HLO.out; omega) HQ.out.1.1.1 HQ.out.2.2; (first | simp only [add_plain] at hd1 | skip); have HZ2 := Aside0.mk hd4; have HP2 := Aside0.mk hput2; clear hput2 hd4 hw hc1 hc2 hc3))
            generalize hw : (w2.setCell ⟨gs, c.toNat, none⟩ (.int .i64 (wrap64 (rd (rd_L1 (spec_l13Push.one F a c b) a) c + wrap64 (b - rd (rd_L1 F c) a))))) = w3
            have HS3 := Aside0.mk (show Kd.S (Kd.slice 3 (Kd.int .i64)) 31 w3 w0.heap.size P0_ (.slice (some ⟨g1, 0, none⟩) l1.length c1) (spec_l13Push.two F a c b) from by rw [← hw, HTWO.out]; exact HP2.out _)
            have HB3 := Aside0.mk (show Below w0.heap.size w0 w3 from by rw [← hw]; exact below_set HB2.out HZ2.out.2)
            have HK3 := Aside0.mk (show Kept w w3 P0_ from by rw [← hw]; exact Kept.setCell HK2.out (.inl HZ2.out.1) _)
            clear hw hd1 hd2 hd3
            go_roundg (m + 1)
            case measure => have := HJ.out; omega
            case rel => exact ⟨m, j + 1, spec_l13Push.two F a c b, by first | rfl | (rw [← HUP.out]), ⟨by omega, by have := HJ.out; omega, by omega⟩, ⟨by rw [HTWO.out, List.length_set]; have := HLO.out; have := HFL.out; omega, HPUT.out⟩, HS3, HB3, HK3⟩
    | succ m =>
      have hmu := HMU.out
      rw [spec_l13Push.by_] at hmu
      replace hmu := Option.bind_eq_some_iff.mp hmu
      obtain ⟨q, hq, hmu⟩ := hmu
      have HQ := Aside0.mk hq
      have HJ := Aside0.mk (show 1 ≤ i ∧ i + 1 + m = l2.length ∧ m + 1 < gk by have := HI.out; omega)
      clear hq HMU HI
      have HMU := Aside0.mk hmu
      clear hmu
      have d1 : decide ((i : Int) < (l2.length : Int)) = true := decide_eq_true (by have := HJ.out; omega)
      have d2 : ((i : Int) < (l2.length : Int)) = True := eq_true (by have := HJ.out; omega)
      have d3 : decide (i < l2.length) = true := decide_eq_true (by have := HJ.out; omega)
      have d4 : (i < l2.length) = True := eq_true (by have := HJ.out; omega)
      have d5 : decide (0 ≤ (i : Int)) = true := decide_eq_true (by omega)
      have d6 : (0 ≤ (i : Int)) = True := eq_true (by omega)
      have d7 : decide (0 ≤ (i : Int) - 1) = true := decide_eq_true (by have := HJ.out; omega)
      have d8 : (0 ≤ (i : Int) - 1) = True := eq_true (by have := HJ.out; omega)
      have d9 : decide ((i : Int) - 1 < (l2.length : Int)) = true := decide_eq_true (by have := HJ.out; omega)
      have d10 : ((i : Int) - 1 < (l2.length : Int)) = True := eq_true (by have := HJ.out; omega)
      have d11 : (1 ≤ (i : Int)) = True := eq_true (by have := HJ.out; omega)
      have d12 : decide (1 ≤ (i : Int)) = true := decide_eq_true (by have := HJ.out; omega)
      have e1 : IntKind.i64.wrap ((i : Int) - 1) = (i : Int) - 1 := IntWalk.i64_in _ (by have := HJ.out; have := HM.out; omega)
      obtain ⟨ad2, ea2, hx2⟩ := Kd.at_int (HR2.out _ HK.out) ((i : Int) - 1) (by have := HJ.out; omega) (by have := HJ.out; omega)
      cases ea2
      obtain ⟨ad3, ea3, hx3⟩ := Kd.at_int (HR2.out _ HK.out) (i : Int) (by omega) (by have := HJ.out; omega)
      obtain rfl : ad2 = ad3 := by injection ea3
      clear ea3
      rw [show ((i : Int) - 1).toNat = i - 1 by omega] at hx2
      rw [Int.toNat_natCast] at hx3
      have hup : wrap64 ((i : Int) + 1) = ((i + 1 : Nat) : Int) := by have := HJ.out; have := HM.out; unfold wrap64; omega
      have HUP := Aside0.mk hup
      clear hup
      by_cases cq : q < b
      · have c1 : decide (q < b) = true := decide_eq_true cq
        have HMU' := Aside0.mk (show spec_l13Push.by_ l0 l1 l2 m (i + 1) q = some mu' by have := HMU.out; rw [if_pos cq] at this; exact this)
        clear cq HMU
        go_wp2
        go_quiet ((go_at_call 47; (with_reducible refine (spec_l13Room.calls _ _ l0 _ _ l1 (rd l2 ((i : Int) - 1)) (rd l2 (i : Int)) q _ ?side1 ?side2 ?side3 ?side4 HQ.out).mono ?_); (case side1 => repeat (first | exact (Kd.C_below HR0.out HB.out) | (with_reducible refine Kd.C_drewN ?_ _) | (with_reducible refine Kd.C_drew ?_))); (case side2 => exact HC0.out); (case side3 => repeat (first | exact (Kd.S_reads' HS.out).2.2 | (with_reducible refine Kd.C_drewN ?_ _) | (with_reducible refine Kd.C_drew ?_))); (case side4 => exact HC1.out); rintro e w' ⟨rfl, ⟨nd, rfl⟩⟩; (try first | exact ⟨rfl, _, World.drewN_drewN _ _ _⟩ | exact ⟨rfl, _, Eq.trans (World.drewN_drewN _ _ _) (congrArg (World.drewN _) (Nat.add_assoc _ _ _))⟩)))
        go_wp2
        go_roundg (m + 1)
        case measure => have := HJ.out; omega
        case rel => exact ⟨m, i + 1, q, rfl, by first | rfl | (rw [← HUP.out]), ⟨by omega, by have := HJ.out; omega, by omega⟩, HMU', ⟨by (with_reducible repeat (first | apply Kd.S_drewN | apply Kd.S_drew)); exact HS.out⟩, ⟨by repeat (first | exact HB.out | apply pw_below_drewN | apply below_drew1)⟩, ⟨by repeat (first | exact HK.out | apply Kept.drewN | apply Kept.drew)⟩⟩
      · have c1 : decide (q < b) = false := decide_eq_false cq
        have HMU' := Aside0.mk (show spec_l13Push.by_ l0 l1 l2 m (i + 1) b = some mu' by have := HMU.out; rw [if_neg cq] at this; exact this)
        clear cq HMU
        go_wp2
        go_quiet ((go_at_call 47; (with_reducible refine (spec_l13Room.calls _ _ l0 _ _ l1 (rd l2 ((i : Int) - 1)) (rd l2 (i : Int)) q _ ?side1 ?side2 ?side3 ?side4 HQ.out).mono ?_); (case side1 => repeat (first | exact (Kd.C_below HR0.out HB.out) | (with_reducible refine Kd.C_drewN ?_ _) | (with_reducible refine Kd.C_drew ?_))); (case side2 => exact HC0.out); (case side3 => repeat (first | exact (Kd.S_reads' HS.out).2.2 | (with_reducible refine Kd.C_drewN ?_ _) | (with_reducible refine Kd.C_drew ?_))); (case side4 => exact HC1.out); rintro e w' ⟨rfl, ⟨nd, rfl⟩⟩; (try first | exact ⟨rfl, _, World.drewN_drewN _ _ _⟩ | exact ⟨rfl, _, Eq.trans (World.drewN_drewN _ _ _) (congrArg (World.drewN _) (Nat.add_assoc _ _ _))⟩)))
        go_wp2
        go_roundg (m + 1)
        case measure => have := HJ.out; omega
        case rel => exact ⟨m, i + 1, b, rfl, by first | rfl | (rw [← HUP.out]), ⟨by omega, by have := HJ.out; omega, by omega⟩, HMU', ⟨by (with_reducible repeat (first | apply Kd.S_drewN | apply Kd.S_drew)); exact HS.out⟩, ⟨by repeat (first | exact HB.out | apply pw_below_drewN | apply below_drew1)⟩, ⟨by repeat (first | exact HK.out | apply Kept.drewN | apply Kept.drew)⟩⟩

end Go.Proofs.Ytdbepjnapjjlcaa.GLMostFlow
