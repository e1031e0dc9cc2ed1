-- Written by a program of this session (gprint.py), over the kit's print: not trusted: Lean checks it.
import Derived.Test.YtdbepjnapjjlcaaGLCutOf0
import Derived.Test.YtdbepjnapjjlcaaGLCutOf1
import Derived.Test.YtdbepjnapjjlcaaGLCutOf2
import Derived.Test.YtdbepjnapjjlcaaGLCutOf4
import Derived.Test.YtdbepjnapjjlcaaGLCutOf7
namespace Go.Proofs.Ytdbepjnapjjlcaa.GLCutOf
open Go.RowKit Go.Proofs.YtdbepjnapjjlcaaW.PrintWords Go.Proofs.YtdbepjnapjjlcaaW.PrintLast Go.Proofs.YtdbepjnapjjlcaaW.PrintMore Go.Proofs.YtdbepjnapjjlcaaW.PrintOwn
attribute [local go_sem] max2_int min2_int max_two min_two max_three min_three max_four min_four   -- for this text's walks alone
set_option linter.unusedVariables false
set_option linter.unusedSimpArgs false

/-! ### laws_FnExactCutOf: function 9 -/
def laws_FnExactCutOf.f (k : Nat) (l0 : List (List Int)) : Option (Bool) := (laws_szIntSS.f k l0 1048576).bind fun t1 => (if t1 < 0 then some true else ((laws_toIntSS.f k l0).bind fun x9 => ((spec_CutOf.f k x9).bind fun p => match p with | (x16, x17) => (if impl_CutOf.f k x9 = some (x16, x17) then (if laws_eqIntS.f k x16 x16 = some true then (if laws_eqIntSS.f k x9 x9 = some true then ((laws_markIntSS.g x9 1).bind fun p => match p with | (t37, x38) => (if 0 ≤ t37 then ((laws_markIntS.f k x16 1).bind fun p => match p with | (t39, x40) => (if laws_heldIntS.f k x40 1 = some t39 then (if 0 ≤ t39 then (some true) else none) else none)) else none)) else none) else none) else none))))
set_option maxHeartbeats 16000000 in
set_option maxRecDepth 100000 in
theorem laws_FnExactCutOf.calls (k : Nat) (A0 : Option Addr) (c0 : Nat) (l0 : List (List Int)) (r : Bool) (w : World) (hr0 : Kd.C (Kd.slice 3 (Kd.int .i64)) w A0 l0.length l0) (hc0 : l0.length ≤ c0) (h : laws_FnExactCutOf.f k l0 = some r) :
    Calls Try.prog 9 #[.slice A0 l0.length c0] w fun e w' => e = .returned (.bool r) ∧ Below w.heap.size w w' := by
  have HR0 := Aside0.mk hr0
  have HL0 := Aside0.mk hc0
  clear hr0 hc0
  unfold laws_FnExactCutOf.f at h
  replace h := Option.bind_eq_some_iff.mp h
  obtain ⟨t1, H540, h⟩ := h
  have H54 := Aside0.mk H540
  clear H540
  try dsimp only at h
  by_cases c55 : t1 < 0
  · rw [if_pos c55] at h
    obtain rfl := Option.some.inj h
    clear h
    have d1 : decide (t1 < 0) = true := decide_eq_true c55
    clear c55
    go_enter Try.func9, Try.ntmps9
    have HB := Aside0.mk (Below.refl w.heap.size w)
    have HN := Aside0.mk (Nat.le_refl w.heap.size)
    go_wp2_with fail
    go_at_call 11
    refine (laws_szIntSS.calls k A0 c0 l0 1048576 t1 _ (Kd.C_below HR0.out (by repeat (first | exact HB.out | apply pw_below_drewN | apply below_drew1))) HL0.out H54.out).mono ?_
    rintro e w_56 ⟨rfl, ⟨nd57, rfl⟩⟩
    go_wp2_with fail
    go_ret
    exact ⟨rfl, (by repeat (first | exact HB.out | apply pw_below_drewN | apply below_drew1))⟩
  rw [if_neg c55] at h
  have d58 : decide (t1 < 0) = false := decide_eq_false c55
  clear c55
  replace h := Option.bind_eq_some_iff.mp h
  obtain ⟨x9, H590, h⟩ := h
  have H59 := Aside0.mk H590
  clear H590
  try dsimp only at h
  replace h := Option.bind_eq_some_iff.mp h
  obtain ⟨⟨x16, x17⟩, H600, h⟩ := h
  have H60 := Aside0.mk H600
  clear H600
  try dsimp only at h
  obtain ⟨H610, h⟩ := need_of h
  have H61 := Aside0.mk H610
  clear H610
  obtain ⟨H620, h⟩ := need_of h
  have H62 := Aside0.mk H620
  clear H620
  obtain ⟨H630, h⟩ := need_of h
  have H63 := Aside0.mk H630
  clear H630
  replace h := Option.bind_eq_some_iff.mp h
  obtain ⟨⟨t37, x38⟩, H640, h⟩ := h
  have H64 := Aside0.mk H640
  clear H640
  try dsimp only at h
  obtain ⟨H650, h⟩ := need_of h
  have H65 := Aside0.mk H650
  clear H650
  replace h := Option.bind_eq_some_iff.mp h
  obtain ⟨⟨t39, x40⟩, H660, h⟩ := h
  have H66 := Aside0.mk H660
  clear H660
  try dsimp only at h
  obtain ⟨H670, h⟩ := need_of h
  have H67 := Aside0.mk H670
  clear H670
  obtain ⟨H680, h⟩ := need_of h
  have H68 := Aside0.mk H680
  clear H680
  obtain rfl := Option.some.inj h
  clear h
  go_enter Try.func9, Try.ntmps9
  have HB := Aside0.mk (Below.refl w.heap.size w)
  have HN := Aside0.mk (Nat.le_refl w.heap.size)
  go_wp2_with fail
  go_at_call 11
  refine (laws_szIntSS.calls k A0 c0 l0 1048576 t1 _ (Kd.C_below HR0.out (by repeat (first | exact HB.out | apply pw_below_drewN | apply below_drew1))) HL0.out H54.out).mono ?_
  rintro e w_69 ⟨rfl, ⟨nd70, rfl⟩⟩
  go_wp2_with fail
  go_at_call 13
  refine (laws_toIntSS.calls k A0 c0 l0 x9 _ (Kd.C_below HR0.out (by repeat (first | exact HB.out | apply pw_below_drewN | apply below_drew1))) HL0.out H59.out).mono ?_
  rintro e w1 ⟨v5, rfl, hF6, hb⟩
  have HB2 := Aside0.mk (below_next (N := w.heap.size) (by repeat (first | exact HB.out | apply pw_below_drewN | apply below_drew1)) (by exact HN.out) (by omega) hb)
  obtain ⟨lo71, hi72, ho, hg⟩ := fresh_pts (N := w.heap.size) hb (by exact HN.out)
  have O73 := Aside0.mk (show w.heap.size ≤ lo71 ∧ lo71 ≤ hi72 from ⟨ho.1, ho.2.1⟩)
  have hF6b := S_in hF6 hg (B := w.heap.size) (by have := O73.out; omega)
  obtain ⟨A3, c4, rfl, hle, hC⟩ := Kd.S_reads hF6b
  have HC7 := Aside0.mk hC
  have HL8 := Aside0.mk hle
  clear hle hC
  have F6 := Aside0.mk (show Kd.S (Kd.slice 3 (Kd.int .i64)) 31 w1 w.heap.size (fun k_ => (lo71 ≤ k_ ∧ k_ < hi72) ∧ True) (.slice A3 x9.length c4) x9 from hF6b)
  clear hF6 hF6b
  replace HN := Aside0.mk (show hi72 ≤ w1.heap.size from ho.2.2)
  clear ho hg
  replace HB := HB2
  clear HB2 hb
  go_wp2_with fail
  go_at_call 32
  refine (spec_CutOf.calls k A3 c4 x9 x16 x17 _ (by (with_reducible repeat (first | apply Kd.C_drewN | apply Kd.C_drew)); exact HC7.out) HL8.out H60.out).mono ?_
  rintro e w2 ⟨v12, rfl, hF13, hb⟩
  have HB2 := Aside0.mk (below_next (N := hi72) (by repeat (first | exact HB.out | apply pw_below_drewN | apply below_drew1)) (by exact HN.out) (by have := O73.out; omega) hb)
  replace F6 := Aside0.mk (show Kd.S (Kd.slice 3 (Kd.int .i64)) 31 w2 w.heap.size (fun k_ => (lo71 ≤ k_ ∧ k_ < hi72) ∧ True) (.slice A3 x9.length c4) x9 from Kd.S_below (by (with_reducible repeat (first | apply Kd.S_drewN | apply Kd.S_drew)); exact F6.out) hb)
  replace HC7 := Aside0.mk (show Kd.C (Kd.slice 3 (Kd.int .i64)) w2 A3 x9.length x9 from Kd.C_below (by (with_reducible repeat (first | apply Kd.C_drewN | apply Kd.C_drew)); exact HC7.out) hb)
  obtain ⟨lo74, hi75, ho, hg⟩ := fresh_pts (N := hi72) hb (by exact HN.out)
  have O76 := Aside0.mk (show hi72 ≤ lo74 ∧ lo74 ≤ hi75 from ⟨ho.1, ho.2.1⟩)
  have hF13b := R_in hF13 hg (B := w.heap.size) (by have := O73.out; have := O76.out; omega)
  obtain ⟨A10, c11, rfl, hle, hC⟩ := Kd.R_reads hF13b
  have HC14 := Aside0.mk hC
  have HL15 := Aside0.mk hle
  clear hle hC
  have F13 := Aside0.mk (show Kd.R (Kd.int .i64) 3 w2 w.heap.size (fun k_ => (lo74 ≤ k_ ∧ k_ < hi75) ∧ True) (.slice A10 x16.length c11) x16 from hF13b)
  clear hF13 hF13b
  replace HN := Aside0.mk (show hi75 ≤ w2.heap.size from ho.2.2)
  clear ho hg
  replace HB := HB2
  clear HB2 hb
  clear F6 HC7
  go_wp2_with fail
  go_at_call 13
  refine (laws_toIntSS.calls k A0 c0 l0 x9 _ (Kd.C_below HR0.out (by repeat (first | exact HB.out | apply pw_below_drewN | apply below_drew1))) HL0.out H59.out).mono ?_
  rintro e w3 ⟨v20, rfl, hF21, hb⟩
  have HB2 := Aside0.mk (below_next (N := hi75) (by repeat (first | exact HB.out | apply pw_below_drewN | apply below_drew1)) (by exact HN.out) (by have := O73.out; have := O76.out; omega) hb)
  replace F13 := Aside0.mk (show Kd.R (Kd.int .i64) 3 w3 w.heap.size (fun k_ => (lo74 ≤ k_ ∧ k_ < hi75) ∧ True) (.slice A10 x16.length c11) x16 from Kd.R_below (by (with_reducible repeat (first | apply Kd.R_drewN | apply Kd.R_drew)); exact F13.out) hb)
  replace HC14 := Aside0.mk (show Kd.C (Kd.int .i64) w3 A10 x16.length x16 from Kd.C_below (by (with_reducible repeat (first | apply Kd.C_drewN | apply Kd.C_drew)); exact HC14.out) hb)
  obtain ⟨lo77, hi78, ho, hg⟩ := fresh_pts (N := hi75) hb (by exact HN.out)
  have O79 := Aside0.mk (show hi75 ≤ lo77 ∧ lo77 ≤ hi78 from ⟨ho.1, ho.2.1⟩)
  have hF21b := S_in hF21 hg (B := w.heap.size) (by have := O73.out; have := O76.out; have := O79.out; omega)
  obtain ⟨A18, c19, rfl, hle, hC⟩ := Kd.S_reads hF21b
  have HC22 := Aside0.mk hC
  have HL23 := Aside0.mk hle
  clear hle hC
  have F21 := Aside0.mk (show Kd.S (Kd.slice 3 (Kd.int .i64)) 31 w3 w.heap.size (fun k_ => (lo77 ≤ k_ ∧ k_ < hi78) ∧ True) (.slice A18 x9.length c19) x9 from hF21b)
  clear hF21 hF21b
  replace HN := Aside0.mk (show hi78 ≤ w3.heap.size from ho.2.2)
  clear ho hg
  replace HB := HB2
  clear HB2 hb
  go_wp2_with fail
  go_at_call 33
  refine (impl_CutOf.calls k A18 c19 x9 x16 x17 _ (by (with_reducible repeat (first | apply Kd.C_drewN | apply Kd.C_drew)); exact HC22.out) HL23.out H61.out).mono ?_
  rintro e w4 ⟨v26, rfl, hF27, hb⟩
  have HB2 := Aside0.mk (below_next (N := hi78) (by repeat (first | exact HB.out | apply pw_below_drewN | apply below_drew1)) (by exact HN.out) (by have := O73.out; have := O76.out; have := O79.out; omega) hb)
  replace F13 := Aside0.mk (show Kd.R (Kd.int .i64) 3 w4 w.heap.size (fun k_ => (lo74 ≤ k_ ∧ k_ < hi75) ∧ True) (.slice A10 x16.length c11) x16 from Kd.R_below (by (with_reducible repeat (first | apply Kd.R_drewN | apply Kd.R_drew)); exact F13.out) hb)
  replace HC14 := Aside0.mk (show Kd.C (Kd.int .i64) w4 A10 x16.length x16 from Kd.C_below (by (with_reducible repeat (first | apply Kd.C_drewN | apply Kd.C_drew)); exact HC14.out) hb)
  replace F21 := Aside0.mk (show Kd.S (Kd.slice 3 (Kd.int .i64)) 31 w4 w.heap.size (fun k_ => (lo77 ≤ k_ ∧ k_ < hi78) ∧ True) (.slice A18 x9.length c19) x9 from Kd.S_below (by (with_reducible repeat (first | apply Kd.S_drewN | apply Kd.S_drew)); exact F21.out) hb)
  replace HC22 := Aside0.mk (show Kd.C (Kd.slice 3 (Kd.int .i64)) w4 A18 x9.length x9 from Kd.C_below (by (with_reducible repeat (first | apply Kd.C_drewN | apply Kd.C_drew)); exact HC22.out) hb)
  obtain ⟨lo80, hi81, ho, hg⟩ := fresh_pts (N := hi78) hb (by exact HN.out)
  have O82 := Aside0.mk (show hi78 ≤ lo80 ∧ lo80 ≤ hi81 from ⟨ho.1, ho.2.1⟩)
  have hF27b := R_in hF27 hg (B := w.heap.size) (by have := O73.out; have := O76.out; have := O79.out; have := O82.out; omega)
  obtain ⟨A24, c25, rfl, hle, hC⟩ := Kd.R_reads hF27b
  have HC28 := Aside0.mk hC
  have HL29 := Aside0.mk hle
  clear hle hC
  have F27 := Aside0.mk (show Kd.R (Kd.int .i64) 3 w4 w.heap.size (fun k_ => (lo80 ≤ k_ ∧ k_ < hi81) ∧ True) (.slice A24 x16.length c25) x16 from hF27b)
  clear hF27 hF27b
  replace HN := Aside0.mk (show hi81 ≤ w4.heap.size from ho.2.2)
  clear ho hg
  replace HB := HB2
  clear HB2 hb
  go_wp2_with fail
  go_at_call 23
  refine (laws_eqIntS.calls k A24 c25 x16 A10 c11 x16 true _ (by (with_reducible repeat (first | apply Kd.C_drewN | apply Kd.C_drew)); exact HC28.out) HL29.out (by (with_reducible repeat (first | apply Kd.C_drewN | apply Kd.C_drew)); exact HC14.out) HL15.out H62.out).mono ?_
  rintro e w_83 ⟨rfl, ⟨nd84, rfl⟩⟩
  go_wp2_with fail
  go_at_call 13
  refine (laws_toIntSS.calls k A0 c0 l0 x9 _ (Kd.C_below HR0.out (by repeat (first | exact HB.out | apply pw_below_drewN | apply below_drew1))) HL0.out H59.out).mono ?_
  rintro e w5 ⟨v33, rfl, hF34, hb⟩
  have HB2 := Aside0.mk (below_next (N := hi81) (by repeat (first | exact HB.out | apply pw_below_drewN | apply below_drew1)) (by exact HN.out) (by have := O73.out; have := O76.out; have := O79.out; have := O82.out; omega) hb)
  replace F13 := Aside0.mk (show Kd.R (Kd.int .i64) 3 w5 w.heap.size (fun k_ => (lo74 ≤ k_ ∧ k_ < hi75) ∧ True) (.slice A10 x16.length c11) x16 from Kd.R_below (by (with_reducible repeat (first | apply Kd.R_drewN | apply Kd.R_drew)); exact F13.out) hb)
  replace HC14 := Aside0.mk (show Kd.C (Kd.int .i64) w5 A10 x16.length x16 from Kd.C_below (by (with_reducible repeat (first | apply Kd.C_drewN | apply Kd.C_drew)); exact HC14.out) hb)
  replace F21 := Aside0.mk (show Kd.S (Kd.slice 3 (Kd.int .i64)) 31 w5 w.heap.size (fun k_ => (lo77 ≤ k_ ∧ k_ < hi78) ∧ True) (.slice A18 x9.length c19) x9 from Kd.S_below (by (with_reducible repeat (first | apply Kd.S_drewN | apply Kd.S_drew)); exact F21.out) hb)
  replace HC22 := Aside0.mk (show Kd.C (Kd.slice 3 (Kd.int .i64)) w5 A18 x9.length x9 from Kd.C_below (by (with_reducible repeat (first | apply Kd.C_drewN | apply Kd.C_drew)); exact HC22.out) hb)
  replace F27 := Aside0.mk (show Kd.R (Kd.int .i64) 3 w5 w.heap.size (fun k_ => (lo80 ≤ k_ ∧ k_ < hi81) ∧ True) (.slice A24 x16.length c25) x16 from Kd.R_below (by (with_reducible repeat (first | apply Kd.R_drewN | apply Kd.R_drew)); exact F27.out) hb)
  replace HC28 := Aside0.mk (show Kd.C (Kd.int .i64) w5 A24 x16.length x16 from Kd.C_below (by (with_reducible repeat (first | apply Kd.C_drewN | apply Kd.C_drew)); exact HC28.out) hb)
  obtain ⟨lo85, hi86, ho, hg⟩ := fresh_pts (N := hi81) hb (by exact HN.out)
  have O87 := Aside0.mk (show hi81 ≤ lo85 ∧ lo85 ≤ hi86 from ⟨ho.1, ho.2.1⟩)
  have hF34b := S_in hF34 hg (B := w.heap.size) (by have := O73.out; have := O76.out; have := O79.out; have := O82.out; have := O87.out; omega)
  obtain ⟨A31, c32, rfl, hle, hC⟩ := Kd.S_reads hF34b
  have HC35 := Aside0.mk hC
  have HL36 := Aside0.mk hle
  clear hle hC
  have F34 := Aside0.mk (show Kd.S (Kd.slice 3 (Kd.int .i64)) 31 w5 w.heap.size (fun k_ => (lo85 ≤ k_ ∧ k_ < hi86) ∧ True) (.slice A31 x9.length c32) x9 from hF34b)
  clear hF34 hF34b
  replace HN := Aside0.mk (show hi86 ≤ w5.heap.size from ho.2.2)
  clear ho hg
  replace HB := HB2
  clear HB2 hb
  go_wp2_with fail
  go_at_call 15
  refine (laws_eqIntSS.calls k A18 c19 x9 A31 c32 x9 true _ (by (with_reducible repeat (first | apply Kd.C_drewN | apply Kd.C_drew)); exact HC22.out) HL23.out (by (with_reducible repeat (first | apply Kd.C_drewN | apply Kd.C_drew)); exact HC35.out) HL36.out H63.out).mono ?_
  rintro e w_88 ⟨rfl, ⟨nd89, rfl⟩⟩
  clear F34 HC35
  go_wp2_with fail
  go_at_call 26
  refine (laws_markIntSS.marks (fun k_ => (lo77 ≤ k_ ∧ k_ < hi78) ∧ True) (.slice A18 x9.length c19) x9 1 t37 x38 w _ (by repeat (first | exact HB.out | apply pw_below_drewN | apply below_drew1)) (by (with_reducible repeat (first | apply Kd.S_drewN | apply Kd.S_drew)); exact F21.out) H64.out).mono ?_
  rintro e w6 ⟨rfl, hF0, hB2, hK⟩
  replace F13 := Aside0.mk (show Kd.R (Kd.int .i64) 3 w6 w.heap.size (fun k_ => (lo74 ≤ k_ ∧ k_ < hi75) ∧ True) (.slice A10 x16.length c11) x16 from Kd.R_kept (S := (fun k_ => (lo77 ≤ k_ ∧ k_ < hi78) ∧ True)) (by (with_reducible repeat (first | apply Kd.R_drewN | apply Kd.R_drew)); exact F13.out) hK (fun k_ h1_ h2_ => by have h3_ := h1_.1; have h4_ := h2_.1; have := O73.out; have := O76.out; have := O79.out; have := O82.out; have := O87.out; omega))
  replace HC14 := Aside0.mk (show Kd.C (Kd.int .i64) w6 A10 x16.length x16 from (Kd.R_reads' F13.out).2.2)
  replace F27 := Aside0.mk (show Kd.R (Kd.int .i64) 3 w6 w.heap.size (fun k_ => (lo80 ≤ k_ ∧ k_ < hi81) ∧ True) (.slice A24 x16.length c25) x16 from Kd.R_kept (S := (fun k_ => (lo77 ≤ k_ ∧ k_ < hi78) ∧ True)) (by (with_reducible repeat (first | apply Kd.R_drewN | apply Kd.R_drew)); exact F27.out) hK (fun k_ h1_ h2_ => by have h3_ := h1_.1; have h4_ := h2_.1; have := O73.out; have := O76.out; have := O79.out; have := O82.out; have := O87.out; omega))
  replace HC28 := Aside0.mk (show Kd.C (Kd.int .i64) w6 A24 x16.length x16 from (Kd.R_reads' F27.out).2.2)
  clear F21 HC22
  replace HN := Aside0.mk (show hi86 ≤ w6.heap.size from Nat.le_trans HN.out hK.1)
  replace HB := Aside0.mk hB2
  clear hB2 hK hF0
  have d91 : decide (t37 < 0) = false := decide_eq_false (by have := H65.out; omega)
  go_wp2_with fail
  go_at_call 23
  refine (laws_eqIntS.calls k A24 c25 x16 A10 c11 x16 true _ (by (with_reducible repeat (first | apply Kd.C_drewN | apply Kd.C_drew)); exact HC28.out) HL29.out (by (with_reducible repeat (first | apply Kd.C_drewN | apply Kd.C_drew)); exact HC14.out) HL15.out H62.out).mono ?_
  rintro e w_92 ⟨rfl, ⟨nd93, rfl⟩⟩
  go_wp2_with fail
  go_at_call 27
  refine (laws_markIntS.calls k (fun k_ => some k_ = (.slice A24 x16.length c25 : Value).ownBlock) (.slice A24 x16.length c25) x16 1 t39 x40 w _ (by repeat (first | exact HB.out | apply pw_below_drewN | apply below_drew1)) (Kd.R_tight rfl (by (with_reducible repeat (first | apply Kd.R_drewN | apply Kd.R_drew)); exact F27.out)) H66.out).mono ?_
  rintro e w7 ⟨rfl, hF0, hB2, hK⟩
  replace F13 := Aside0.mk (show Kd.R (Kd.int .i64) 3 w7 w.heap.size (fun k_ => (lo74 ≤ k_ ∧ k_ < hi75) ∧ True) (.slice A10 x16.length c11) x16 from Kd.R_kept (S := (fun k_ => some k_ = (.slice A24 x16.length c25 : Value).ownBlock)) (by (with_reducible repeat (first | apply Kd.R_drewN | apply Kd.R_drew)); exact F13.out) hK (fun k_ h1_ h2_ => (fun e_ => by have h3_ := h1_.1; have h4_ := (F27.out.1 k_ e_.symm).1; have := O73.out; have := O76.out; have := O79.out; have := O82.out; have := O87.out; omega) h2_))
  replace HC14 := Aside0.mk (show Kd.C (Kd.int .i64) w7 A10 x16.length x16 from (Kd.R_reads' F13.out).2.2)
  replace F27 := Aside0.mk (show Kd.R (Kd.int .i64) 3 w7 w.heap.size (fun k_ => (lo80 ≤ k_ ∧ k_ < hi81) ∧ True) (.slice A24 x16.length c25) x40 from Kd.R_mono (Kd.R_tight rfl hF0) (fun k_ hk_ => F27.out.1 k_ hk_.symm))
  replace HC28 := Aside0.mk (show Kd.C (Kd.int .i64) w7 A24 x40.length x40 from (Kd.R_reads' F27.out).2.2)
  have HQ94 := Aside0.mk (show x16.length = x40.length from (Kd.R_reads' F27.out).1)
  replace HL29 := Aside0.mk (show x40.length ≤ c25 from by rw [← HQ94.out]; exact HL29.out)
  replace HN := Aside0.mk (show hi86 ≤ w7.heap.size from Nat.le_trans HN.out hK.1)
  replace HB := Aside0.mk hB2
  clear hB2 hK hF0
  go_wp2_with fail
  go_at_call 31
  refine calls_of_args (args' := #[.slice A24 x40.length c25, .int .i64 1]) (by rw [HQ94.out]) ?_
  refine (laws_heldIntS.calls k A24 c25 x40 1 t39 _ (by (with_reducible repeat (first | apply Kd.C_drewN | apply Kd.C_drew)); exact HC28.out) HL29.out H67.out).mono ?_
  rintro e w_95 ⟨rfl, ⟨nd96, rfl⟩⟩
  have d97 : decide (t39 < 0) = false := decide_eq_false (by have := H68.out; omega)
  go_wp2_with fail
  go_at_call 13
  refine (laws_toIntSS.calls k A0 c0 l0 x9 _ (Kd.C_below HR0.out (by repeat (first | exact HB.out | apply pw_below_drewN | apply below_drew1))) HL0.out H59.out).mono ?_
  rintro e w8 ⟨v44, rfl, hF45, hb⟩
  have HB2 := Aside0.mk (below_next (N := hi86) (by repeat (first | exact HB.out | apply pw_below_drewN | apply below_drew1)) (by exact HN.out) (by have := O73.out; have := O76.out; have := O79.out; have := O82.out; have := O87.out; omega) hb)
  replace F13 := Aside0.mk (show Kd.R (Kd.int .i64) 3 w8 w.heap.size (fun k_ => (lo74 ≤ k_ ∧ k_ < hi75) ∧ True) (.slice A10 x16.length c11) x16 from Kd.R_below (by (with_reducible repeat (first | apply Kd.R_drewN | apply Kd.R_drew)); exact F13.out) hb)
  replace HC14 := Aside0.mk (show Kd.C (Kd.int .i64) w8 A10 x16.length x16 from Kd.C_below (by (with_reducible repeat (first | apply Kd.C_drewN | apply Kd.C_drew)); exact HC14.out) hb)
  replace F27 := Aside0.mk (show Kd.R (Kd.int .i64) 3 w8 w.heap.size (fun k_ => (lo80 ≤ k_ ∧ k_ < hi81) ∧ True) (.slice A24 x16.length c25) x40 from Kd.R_below (by (with_reducible repeat (first | apply Kd.R_drewN | apply Kd.R_drew)); exact F27.out) hb)
  replace HC28 := Aside0.mk (show Kd.C (Kd.int .i64) w8 A24 x40.length x40 from Kd.C_below (by (with_reducible repeat (first | apply Kd.C_drewN | apply Kd.C_drew)); exact HC28.out) hb)
  obtain ⟨lo98, hi99, ho, hg⟩ := fresh_pts (N := hi86) hb (by exact HN.out)
  have O100 := Aside0.mk (show hi86 ≤ lo98 ∧ lo98 ≤ hi99 from ⟨ho.1, ho.2.1⟩)
  have hF45b := S_in hF45 hg (B := w.heap.size) (by have := O73.out; have := O76.out; have := O79.out; have := O82.out; have := O87.out; have := O100.out; omega)
  obtain ⟨A42, c43, rfl, hle, hC⟩ := Kd.S_reads hF45b
  have HC46 := Aside0.mk hC
  have HL47 := Aside0.mk hle
  clear hle hC
  have F45 := Aside0.mk (show Kd.S (Kd.slice 3 (Kd.int .i64)) 31 w8 w.heap.size (fun k_ => (lo98 ≤ k_ ∧ k_ < hi99) ∧ True) (.slice A42 x9.length c43) x9 from hF45b)
  clear hF45 hF45b
  replace HN := Aside0.mk (show hi99 ≤ w8.heap.size from ho.2.2)
  clear ho hg
  replace HB := HB2
  clear HB2 hb
  go_wp2_with fail
  go_at_call 33
  refine (impl_CutOf.calls k A42 c43 x9 x16 x17 _ (by (with_reducible repeat (first | apply Kd.C_drewN | apply Kd.C_drew)); exact HC46.out) HL47.out H61.out).mono ?_
  rintro e w9 ⟨v50, rfl, hF51, hb⟩
  have HB2 := Aside0.mk (below_next (N := hi99) (by repeat (first | exact HB.out | apply pw_below_drewN | apply below_drew1)) (by exact HN.out) (by have := O73.out; have := O76.out; have := O79.out; have := O82.out; have := O87.out; have := O100.out; omega) hb)
  replace F13 := Aside0.mk (show Kd.R (Kd.int .i64) 3 w9 w.heap.size (fun k_ => (lo74 ≤ k_ ∧ k_ < hi75) ∧ True) (.slice A10 x16.length c11) x16 from Kd.R_below (by (with_reducible repeat (first | apply Kd.R_drewN | apply Kd.R_drew)); exact F13.out) hb)
  replace HC14 := Aside0.mk (show Kd.C (Kd.int .i64) w9 A10 x16.length x16 from Kd.C_below (by (with_reducible repeat (first | apply Kd.C_drewN | apply Kd.C_drew)); exact HC14.out) hb)
  replace F27 := Aside0.mk (show Kd.R (Kd.int .i64) 3 w9 w.heap.size (fun k_ => (lo80 ≤ k_ ∧ k_ < hi81) ∧ True) (.slice A24 x16.length c25) x40 from Kd.R_below (by (with_reducible repeat (first | apply Kd.R_drewN | apply Kd.R_drew)); exact F27.out) hb)
  replace HC28 := Aside0.mk (show Kd.C (Kd.int .i64) w9 A24 x40.length x40 from Kd.C_below (by (with_reducible repeat (first | apply Kd.C_drewN | apply Kd.C_drew)); exact HC28.out) hb)
  replace F45 := Aside0.mk (show Kd.S (Kd.slice 3 (Kd.int .i64)) 31 w9 w.heap.size (fun k_ => (lo98 ≤ k_ ∧ k_ < hi99) ∧ True) (.slice A42 x9.length c43) x9 from Kd.S_below (by (with_reducible repeat (first | apply Kd.S_drewN | apply Kd.S_drew)); exact F45.out) hb)
  replace HC46 := Aside0.mk (show Kd.C (Kd.slice 3 (Kd.int .i64)) w9 A42 x9.length x9 from Kd.C_below (by (with_reducible repeat (first | apply Kd.C_drewN | apply Kd.C_drew)); exact HC46.out) hb)
  obtain ⟨lo101, hi102, ho, hg⟩ := fresh_pts (N := hi99) hb (by exact HN.out)
  have O103 := Aside0.mk (show hi99 ≤ lo101 ∧ lo101 ≤ hi102 from ⟨ho.1, ho.2.1⟩)
  have hF51b := R_in hF51 hg (B := w.heap.size) (by have := O73.out; have := O76.out; have := O79.out; have := O82.out; have := O87.out; have := O100.out; have := O103.out; omega)
  obtain ⟨A48, c49, rfl, hle, hC⟩ := Kd.R_reads hF51b
  have HC52 := Aside0.mk hC
  have HL53 := Aside0.mk hle
  clear hle hC
  have F51 := Aside0.mk (show Kd.R (Kd.int .i64) 3 w9 w.heap.size (fun k_ => (lo101 ≤ k_ ∧ k_ < hi102) ∧ True) (.slice A48 x16.length c49) x16 from hF51b)
  clear hF51 hF51b
  replace HN := Aside0.mk (show hi102 ≤ w9.heap.size from ho.2.2)
  clear ho hg
  replace HB := HB2
  clear HB2 hb
  clear F45 HC46
  go_wp2_with fail
  go_at_call 23
  refine (laws_eqIntS.calls k A48 c49 x16 A10 c11 x16 true _ (by (with_reducible repeat (first | apply Kd.C_drewN | apply Kd.C_drew)); exact HC52.out) HL53.out (by (with_reducible repeat (first | apply Kd.C_drewN | apply Kd.C_drew)); exact HC14.out) HL15.out H62.out).mono ?_
  rintro e w_104 ⟨rfl, ⟨nd105, rfl⟩⟩
  clear F13 HC14
  clear F51 HC52
  go_wp2_with fail
  go_at_call 31
  refine calls_of_args (args' := #[.slice A24 x40.length c25, .int .i64 1]) (by rw [HQ94.out]) ?_
  refine (laws_heldIntS.calls k A24 c25 x40 1 t39 _ (by (with_reducible repeat (first | apply Kd.C_drewN | apply Kd.C_drew)); exact HC28.out) HL29.out H67.out).mono ?_
  rintro e w_106 ⟨rfl, ⟨nd107, rfl⟩⟩
  clear F27 HC28
  have d108 : decide (t39 < 0) = false := decide_eq_false (by have := H68.out; omega)
  go_wp2_with fail
  go_ret
  exact ⟨rfl, (by repeat (first | exact HB.out | apply pw_below_drewN | apply below_drew1))⟩

/-- THE ONE PURE STATEMENT of laws_FnExactCutOf. -/
def laws_FnExactCutOf.Pure : Prop := ∀ (l0 : List (List Int)), (l0.length ≤ maxLen ∧ ∀ x ∈ l0, (x.length ≤ maxLen ∧ ∀ y_ ∈ x, (Lit.int .i64 y_).wf = true)) → ∃ k, laws_FnExactCutOf.f k l0 = some true
theorem laws_FnExactCutOf.walk (P : laws_FnExactCutOf.Pure) (A0 : Option Addr) (c0 : Nat) (l0 : List (List Int)) (w : World) (hr0 : Kd.C (Kd.slice 3 (Kd.int .i64)) w A0 l0.length l0) (hc0 : l0.length ≤ c0) (hw0 : (l0.length ≤ maxLen ∧ ∀ x ∈ l0, (x.length ≤ maxLen ∧ ∀ y_ ∈ x, (Lit.int .i64 y_).wf = true))) :
    Calls Try.prog 9 #[.slice A0 l0.length c0] w fun e w' => e = .returned (.bool true) ∧ Below w.heap.size w w' := by
  obtain ⟨k, h⟩ := P l0 hw0
  refine (laws_FnExactCutOf.calls k _ _ l0 true w hr0 hc0 h).mono ?_
  rintro e w' ⟨rfl, hd⟩
  exact ⟨rfl, hd⟩

end Go.Proofs.Ytdbepjnapjjlcaa.GLCutOf
