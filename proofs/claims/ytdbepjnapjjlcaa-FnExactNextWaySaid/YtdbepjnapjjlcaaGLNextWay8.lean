-- Written by a program of this session (gprint.py), over the kit's print: not trusted: Lean checks it.
import Derived.Test.YtdbepjnapjjlcaaGLNextWay0
import Derived.Test.YtdbepjnapjjlcaaGLNextWay1
import Derived.Test.YtdbepjnapjjlcaaGLNextWay2
import Derived.Test.YtdbepjnapjjlcaaGLNextWay4
import Derived.Test.YtdbepjnapjjlcaaGLNextWay7
namespace Go.Proofs.Ytdbepjnapjjlcaa.GLNextWay
open Go.RowKit Go.Proofs.YtdbepjnapjjlcaaW.PrintWords Go.Proofs.YtdbepjnapjjlcaaW.PrintLast Go.Proofs.YtdbepjnapjjlcaaW.PrintMore Go.Proofs.YtdbepjnapjjlcaaW.PrintOwn
attribute [local go_sem] max2_int min2_int max_two min_two max_three min_three max_four min_four   -- for this text's walks alone
set_option linter.unusedVariables false
set_option linter.unusedSimpArgs false

/-! ### laws_FnExactNextWay: function 8 -/
def laws_FnExactNextWay.f (k : Nat) (l0 : List (List Int)) (l1 : List (List Int)) : Option (Bool) := (laws_szIntSS.f k l0 1048576).bind fun t1 => (if t1 < 0 then some true else ((laws_szIntSS.f k l1 t1).bind fun t2 => (if t2 < 0 then some true else ((laws_toIntSS.f k l0).bind fun x10 => ((laws_toIntSS.f k l1).bind fun x18 => ((spec_NextWay.f k x10 x18).bind fun p => match p with | (x25, x26, x27) => (if impl_NextWay.f k x10 x18 = some (x25, x26, x27) then (if laws_eqIntS.f k x25 x25 = some true then (if laws_eqIntSS.f k x10 x10 = some true then (if laws_eqIntSS.f k x18 x18 = some true then ((laws_markIntSS.g x10 1).bind fun p => match p with | (t60, x61) => ((laws_markIntSS.g x18 t60).bind fun p => match p with | (t62, x63) => (if 0 ≤ t62 then ((laws_markIntS.f k x25 1).bind fun p => match p with | (t64, x65) => (if laws_heldIntS.f k x65 1 = some t64 then (if 0 ≤ t64 then (some true) else none) else none)) else none))) else none) else none) else none) else none)))))))
set_option maxHeartbeats 16000000 in
set_option maxRecDepth 100000 in
theorem laws_FnExactNextWay.calls (k : Nat) (A0 : Option Addr) (c0 : Nat) (l0 : List (List Int)) (A1 : Option Addr) (c1 : Nat) (l1 : List (List Int)) (r : Bool) (w : World) (hr0 : Kd.C (Kd.slice 3 (Kd.int .i64)) w A0 l0.length l0) (hc0 : l0.length ≤ c0) (hr1 : Kd.C (Kd.slice 3 (Kd.int .i64)) w A1 l1.length l1) (hc1 : l1.length ≤ c1) (h : laws_FnExactNextWay.f k l0 l1 = some r) :
    Calls Try.prog 8 #[.slice A0 l0.length c0, .slice A1 l1.length c1] w fun e w' => e = .returned (.bool r) ∧ Below w.heap.size w w' := by
  have HR0 := Aside0.mk hr0
  have HL0 := Aside0.mk hc0
  clear hr0 hc0
  have HR1 := Aside0.mk hr1
  have HL1 := Aside0.mk hc1
  clear hr1 hc1
  unfold laws_FnExactNextWay.f at h
  replace h := Option.bind_eq_some_iff.mp h
  obtain ⟨t1, H860, h⟩ := h
  have H86 := Aside0.mk H860
  clear H860
  try dsimp only at h
  by_cases c87 : t1 < 0
  · rw [if_pos c87] at h
    obtain rfl := Option.some.inj h
    clear h
    have d1 : decide (t1 < 0) = true := decide_eq_true c87
    clear c87
    go_enter Try.func8, Try.ntmps8
    have HB := Aside0.mk (Below.refl w.heap.size w)
    have HN := Aside0.mk (Nat.le_refl w.heap.size)
    go_wp2_with fail
    go_at_call 11
    refine (laws_szIntSS.calls k A0 c0 l0 1048576 t1 _ (Kd.C_below HR0.out (by repeat (first | exact HB.out | apply pw_below_drewN | apply below_drew1))) HL0.out H86.out).mono ?_
    rintro e w_88 ⟨rfl, ⟨nd89, rfl⟩⟩
    go_wp2_with fail
    go_ret
    exact ⟨rfl, (by repeat (first | exact HB.out | apply pw_below_drewN | apply below_drew1))⟩
  rw [if_neg c87] at h
  have d90 : decide (t1 < 0) = false := decide_eq_false c87
  clear c87
  replace h := Option.bind_eq_some_iff.mp h
  obtain ⟨t2, H910, h⟩ := h
  have H91 := Aside0.mk H910
  clear H910
  try dsimp only at h
  by_cases c92 : t2 < 0
  · rw [if_pos c92] at h
    obtain rfl := Option.some.inj h
    clear h
    have d1 : decide (t2 < 0) = true := decide_eq_true c92
    clear c92
    go_enter Try.func8, Try.ntmps8
    have HB := Aside0.mk (Below.refl w.heap.size w)
    have HN := Aside0.mk (Nat.le_refl w.heap.size)
    go_wp2_with fail
    go_at_call 11
    refine (laws_szIntSS.calls k A0 c0 l0 1048576 t1 _ (Kd.C_below HR0.out (by repeat (first | exact HB.out | apply pw_below_drewN | apply below_drew1))) HL0.out H86.out).mono ?_
    rintro e w_93 ⟨rfl, ⟨nd94, rfl⟩⟩
    go_wp2_with fail
    go_at_call 11
    refine (laws_szIntSS.calls k A1 c1 l1 t1 t2 _ (Kd.C_below HR1.out (by repeat (first | exact HB.out | apply pw_below_drewN | apply below_drew1))) HL1.out H91.out).mono ?_
    rintro e w_95 ⟨rfl, ⟨nd96, rfl⟩⟩
    go_wp2_with fail
    go_ret
    exact ⟨rfl, (by repeat (first | exact HB.out | apply pw_below_drewN | apply below_drew1))⟩
  rw [if_neg c92] at h
  have d97 : decide (t2 < 0) = false := decide_eq_false c92
  clear c92
  replace h := Option.bind_eq_some_iff.mp h
  obtain ⟨x10, H980, h⟩ := h
  have H98 := Aside0.mk H980
  clear H980
  try dsimp only at h
  replace h := Option.bind_eq_some_iff.mp h
  obtain ⟨x18, H990, h⟩ := h
  have H99 := Aside0.mk H990
  clear H990
  try dsimp only at h
  replace h := Option.bind_eq_some_iff.mp h
  obtain ⟨⟨x25, x26, x27⟩, H1000, h⟩ := h
  have H100 := Aside0.mk H1000
  clear H1000
  try dsimp only at h
  obtain ⟨H1010, h⟩ := need_of h
  have H101 := Aside0.mk H1010
  clear H1010
  obtain ⟨H1020, h⟩ := need_of h
  have H102 := Aside0.mk H1020
  clear H1020
  obtain ⟨H1030, h⟩ := need_of h
  have H103 := Aside0.mk H1030
  clear H1030
  obtain ⟨H1040, h⟩ := need_of h
  have H104 := Aside0.mk H1040
  clear H1040
  replace h := Option.bind_eq_some_iff.mp h
  obtain ⟨⟨t60, x61⟩, H1050, h⟩ := h
  have H105 := Aside0.mk H1050
  clear H1050
  try dsimp only at h
  replace h := Option.bind_eq_some_iff.mp h
  obtain ⟨⟨t62, x63⟩, H1060, h⟩ := h
  have H106 := Aside0.mk H1060
  clear H1060
  try dsimp only at h
  obtain ⟨H1070, h⟩ := need_of h
  have H107 := Aside0.mk H1070
  clear H1070
  replace h := Option.bind_eq_some_iff.mp h
  obtain ⟨⟨t64, x65⟩, H1080, h⟩ := h
  have H108 := Aside0.mk H1080
  clear H1080
  try dsimp only at h
  obtain ⟨H1090, h⟩ := need_of h
  have H109 := Aside0.mk H1090
  clear H1090
  obtain ⟨H1100, h⟩ := need_of h
  have H110 := Aside0.mk H1100
  clear H1100
  obtain rfl := Option.some.inj h
  clear h
  go_enter Try.func8, Try.ntmps8
  have HB := Aside0.mk (Below.refl w.heap.size w)
  have HN := Aside0.mk (Nat.le_refl w.heap.size)
  go_wp2_with fail
  go_at_call 11
  refine (laws_szIntSS.calls k A0 c0 l0 1048576 t1 _ (Kd.C_below HR0.out (by repeat (first | exact HB.out | apply pw_below_drewN | apply below_drew1))) HL0.out H86.out).mono ?_
  rintro e w_111 ⟨rfl, ⟨nd112, rfl⟩⟩
  go_wp2_with fail
  go_at_call 11
  refine (laws_szIntSS.calls k A1 c1 l1 t1 t2 _ (Kd.C_below HR1.out (by repeat (first | exact HB.out | apply pw_below_drewN | apply below_drew1))) HL1.out H91.out).mono ?_
  rintro e w_113 ⟨rfl, ⟨nd114, rfl⟩⟩
  go_wp2_with fail
  go_at_call 13
  refine (laws_toIntSS.calls k A0 c0 l0 x10 _ (Kd.C_below HR0.out (by repeat (first | exact HB.out | apply pw_below_drewN | apply below_drew1))) HL0.out H98.out).mono ?_
  rintro e w1 ⟨v6, rfl, hF7, hb⟩
  have HB2 := Aside0.mk (below_next (N := w.heap.size) (by repeat (first | exact HB.out | apply pw_below_drewN | apply below_drew1)) (by exact HN.out) (by omega) hb)
  obtain ⟨lo115, hi116, ho, hg⟩ := fresh_pts (N := w.heap.size) hb (by exact HN.out)
  have O117 := Aside0.mk (show w.heap.size ≤ lo115 ∧ lo115 ≤ hi116 from ⟨ho.1, ho.2.1⟩)
  have hF7b := S_in hF7 hg (B := w.heap.size) (by have := O117.out; omega)
  obtain ⟨A4, c5, rfl, hle, hC⟩ := Kd.S_reads hF7b
  have HC8 := Aside0.mk hC
  have HL9 := Aside0.mk hle
  clear hle hC
  have F7 := Aside0.mk (show Kd.S (Kd.slice 3 (Kd.int .i64)) 31 w1 w.heap.size (fun k_ => (lo115 ≤ k_ ∧ k_ < hi116) ∧ True) (.slice A4 x10.length c5) x10 from hF7b)
  clear hF7 hF7b
  replace HN := Aside0.mk (show hi116 ≤ w1.heap.size from ho.2.2)
  clear ho hg
  replace HB := HB2
  clear HB2 hb
  go_wp2_with fail
  go_at_call 13
  refine (laws_toIntSS.calls k A1 c1 l1 x18 _ (Kd.C_below HR1.out (by repeat (first | exact HB.out | apply pw_below_drewN | apply below_drew1))) HL1.out H99.out).mono ?_
  rintro e w2 ⟨v14, rfl, hF15, hb⟩
  have HB2 := Aside0.mk (below_next (N := hi116) (by repeat (first | exact HB.out | apply pw_below_drewN | apply below_drew1)) (by exact HN.out) (by have := O117.out; omega) hb)
  replace F7 := Aside0.mk (show Kd.S (Kd.slice 3 (Kd.int .i64)) 31 w2 w.heap.size (fun k_ => (lo115 ≤ k_ ∧ k_ < hi116) ∧ True) (.slice A4 x10.length c5) x10 from Kd.S_below (by (with_reducible repeat (first | apply Kd.S_drewN | apply Kd.S_drew)); exact F7.out) hb)
  replace HC8 := Aside0.mk (show Kd.C (Kd.slice 3 (Kd.int .i64)) w2 A4 x10.length x10 from Kd.C_below (by (with_reducible repeat (first | apply Kd.C_drewN | apply Kd.C_drew)); exact HC8.out) hb)
  obtain ⟨lo118, hi119, ho, hg⟩ := fresh_pts (N := hi116) hb (by exact HN.out)
  have O120 := Aside0.mk (show hi116 ≤ lo118 ∧ lo118 ≤ hi119 from ⟨ho.1, ho.2.1⟩)
  have hF15b := S_in hF15 hg (B := w.heap.size) (by have := O117.out; have := O120.out; omega)
  obtain ⟨A12, c13, rfl, hle, hC⟩ := Kd.S_reads hF15b
  have HC16 := Aside0.mk hC
  have HL17 := Aside0.mk hle
  clear hle hC
  have F15 := Aside0.mk (show Kd.S (Kd.slice 3 (Kd.int .i64)) 31 w2 w.heap.size (fun k_ => (lo118 ≤ k_ ∧ k_ < hi119) ∧ True) (.slice A12 x18.length c13) x18 from hF15b)
  clear hF15 hF15b
  replace HN := Aside0.mk (show hi119 ≤ w2.heap.size from ho.2.2)
  clear ho hg
  replace HB := HB2
  clear HB2 hb
  go_wp2_with fail
  go_at_call 29
  refine (spec_NextWay.calls k A4 c5 x10 A12 c13 x18 x25 x26 x27 _ (by (with_reducible repeat (first | apply Kd.C_drewN | apply Kd.C_drew)); exact HC8.out) HL9.out (by (with_reducible repeat (first | apply Kd.C_drewN | apply Kd.C_drew)); exact HC16.out) HL17.out H100.out).mono ?_
  rintro e w3 ⟨v21, rfl, hF22, hb⟩
  have HB2 := Aside0.mk (below_next (N := hi119) (by repeat (first | exact HB.out | apply pw_below_drewN | apply below_drew1)) (by exact HN.out) (by have := O117.out; have := O120.out; omega) hb)
  replace F7 := Aside0.mk (show Kd.S (Kd.slice 3 (Kd.int .i64)) 31 w3 w.heap.size (fun k_ => (lo115 ≤ k_ ∧ k_ < hi116) ∧ True) (.slice A4 x10.length c5) x10 from Kd.S_below (by (with_reducible repeat (first | apply Kd.S_drewN | apply Kd.S_drew)); exact F7.out) hb)
  replace HC8 := Aside0.mk (show Kd.C (Kd.slice 3 (Kd.int .i64)) w3 A4 x10.length x10 from Kd.C_below (by (with_reducible repeat (first | apply Kd.C_drewN | apply Kd.C_drew)); exact HC8.out) hb)
  replace F15 := Aside0.mk (show Kd.S (Kd.slice 3 (Kd.int .i64)) 31 w3 w.heap.size (fun k_ => (lo118 ≤ k_ ∧ k_ < hi119) ∧ True) (.slice A12 x18.length c13) x18 from Kd.S_below (by (with_reducible repeat (first | apply Kd.S_drewN | apply Kd.S_drew)); exact F15.out) hb)
  replace HC16 := Aside0.mk (show Kd.C (Kd.slice 3 (Kd.int .i64)) w3 A12 x18.length x18 from Kd.C_below (by (with_reducible repeat (first | apply Kd.C_drewN | apply Kd.C_drew)); exact HC16.out) hb)
  obtain ⟨lo121, hi122, ho, hg⟩ := fresh_pts (N := hi119) hb (by exact HN.out)
  have O123 := Aside0.mk (show hi119 ≤ lo121 ∧ lo121 ≤ hi122 from ⟨ho.1, ho.2.1⟩)
  have hF22b := R_in hF22 hg (B := w.heap.size) (by have := O117.out; have := O120.out; have := O123.out; omega)
  obtain ⟨A19, c20, rfl, hle, hC⟩ := Kd.R_reads hF22b
  have HC23 := Aside0.mk hC
  have HL24 := Aside0.mk hle
  clear hle hC
  have F22 := Aside0.mk (show Kd.R (Kd.int .i64) 3 w3 w.heap.size (fun k_ => (lo121 ≤ k_ ∧ k_ < hi122) ∧ True) (.slice A19 x25.length c20) x25 from hF22b)
  clear hF22 hF22b
  replace HN := Aside0.mk (show hi122 ≤ w3.heap.size from ho.2.2)
  clear ho hg
  replace HB := HB2
  clear HB2 hb
  clear F7 HC8
  clear F15 HC16
  go_wp2_with fail
  go_at_call 13
  refine (laws_toIntSS.calls k A0 c0 l0 x10 _ (Kd.C_below HR0.out (by repeat (first | exact HB.out | apply pw_below_drewN | apply below_drew1))) HL0.out H98.out).mono ?_
  rintro e w4 ⟨v30, rfl, hF31, hb⟩
  have HB2 := Aside0.mk (below_next (N := hi122) (by repeat (first | exact HB.out | apply pw_below_drewN | apply below_drew1)) (by exact HN.out) (by have := O117.out; have := O120.out; have := O123.out; omega) hb)
  replace F22 := Aside0.mk (show Kd.R (Kd.int .i64) 3 w4 w.heap.size (fun k_ => (lo121 ≤ k_ ∧ k_ < hi122) ∧ True) (.slice A19 x25.length c20) x25 from Kd.R_below (by (with_reducible repeat (first | apply Kd.R_drewN | apply Kd.R_drew)); exact F22.out) hb)
  replace HC23 := Aside0.mk (show Kd.C (Kd.int .i64) w4 A19 x25.length x25 from Kd.C_below (by (with_reducible repeat (first | apply Kd.C_drewN | apply Kd.C_drew)); exact HC23.out) hb)
  obtain ⟨lo124, hi125, ho, hg⟩ := fresh_pts (N := hi122) hb (by exact HN.out)
  have O126 := Aside0.mk (show hi122 ≤ lo124 ∧ lo124 ≤ hi125 from ⟨ho.1, ho.2.1⟩)
  have hF31b := S_in hF31 hg (B := w.heap.size) (by have := O117.out; have := O120.out; have := O123.out; have := O126.out; omega)
  obtain ⟨A28, c29, rfl, hle, hC⟩ := Kd.S_reads hF31b
  have HC32 := Aside0.mk hC
  have HL33 := Aside0.mk hle
  clear hle hC
  have F31 := Aside0.mk (show Kd.S (Kd.slice 3 (Kd.int .i64)) 31 w4 w.heap.size (fun k_ => (lo124 ≤ k_ ∧ k_ < hi125) ∧ True) (.slice A28 x10.length c29) x10 from hF31b)
  clear hF31 hF31b
  replace HN := Aside0.mk (show hi125 ≤ w4.heap.size from ho.2.2)
  clear ho hg
  replace HB := HB2
  clear HB2 hb
  go_wp2_with fail
  go_at_call 13
  refine (laws_toIntSS.calls k A1 c1 l1 x18 _ (Kd.C_below HR1.out (by repeat (first | exact HB.out | apply pw_below_drewN | apply below_drew1))) HL1.out H99.out).mono ?_
  rintro e w5 ⟨v36, rfl, hF37, hb⟩
  have HB2 := Aside0.mk (below_next (N := hi125) (by repeat (first | exact HB.out | apply pw_below_drewN | apply below_drew1)) (by exact HN.out) (by have := O117.out; have := O120.out; have := O123.out; have := O126.out; omega) hb)
  replace F22 := Aside0.mk (show Kd.R (Kd.int .i64) 3 w5 w.heap.size (fun k_ => (lo121 ≤ k_ ∧ k_ < hi122) ∧ True) (.slice A19 x25.length c20) x25 from Kd.R_below (by (with_reducible repeat (first | apply Kd.R_drewN | apply Kd.R_drew)); exact F22.out) hb)
  replace HC23 := Aside0.mk (show Kd.C (Kd.int .i64) w5 A19 x25.length x25 from Kd.C_below (by (with_reducible repeat (first | apply Kd.C_drewN | apply Kd.C_drew)); exact HC23.out) hb)
  replace F31 := Aside0.mk (show Kd.S (Kd.slice 3 (Kd.int .i64)) 31 w5 w.heap.size (fun k_ => (lo124 ≤ k_ ∧ k_ < hi125) ∧ True) (.slice A28 x10.length c29) x10 from Kd.S_below (by (with_reducible repeat (first | apply Kd.S_drewN | apply Kd.S_drew)); exact F31.out) hb)
  replace HC32 := Aside0.mk (show Kd.C (Kd.slice 3 (Kd.int .i64)) w5 A28 x10.length x10 from Kd.C_below (by (with_reducible repeat (first | apply Kd.C_drewN | apply Kd.C_drew)); exact HC32.out) hb)
  obtain ⟨lo127, hi128, ho, hg⟩ := fresh_pts (N := hi125) hb (by exact HN.out)
  have O129 := Aside0.mk (show hi125 ≤ lo127 ∧ lo127 ≤ hi128 from ⟨ho.1, ho.2.1⟩)
  have hF37b := S_in hF37 hg (B := w.heap.size) (by have := O117.out; have := O120.out; have := O123.out; have := O126.out; have := O129.out; omega)
  obtain ⟨A34, c35, rfl, hle, hC⟩ := Kd.S_reads hF37b
  have HC38 := Aside0.mk hC
  have HL39 := Aside0.mk hle
  clear hle hC
  have F37 := Aside0.mk (show Kd.S (Kd.slice 3 (Kd.int .i64)) 31 w5 w.heap.size (fun k_ => (lo127 ≤ k_ ∧ k_ < hi128) ∧ True) (.slice A34 x18.length c35) x18 from hF37b)
  clear hF37 hF37b
  replace HN := Aside0.mk (show hi128 ≤ w5.heap.size from ho.2.2)
  clear ho hg
  replace HB := HB2
  clear HB2 hb
  go_wp2_with fail
  go_at_call 30
  refine (impl_NextWay.calls k A28 c29 x10 A34 c35 x18 x25 x26 x27 _ (by (with_reducible repeat (first | apply Kd.C_drewN | apply Kd.C_drew)); exact HC32.out) HL33.out (by (with_reducible repeat (first | apply Kd.C_drewN | apply Kd.C_drew)); exact HC38.out) HL39.out H101.out).mono ?_
  rintro e w6 ⟨v42, rfl, hF43, hb⟩
  have HB2 := Aside0.mk (below_next (N := hi128) (by repeat (first | exact HB.out | apply pw_below_drewN | apply below_drew1)) (by exact HN.out) (by have := O117.out; have := O120.out; have := O123.out; have := O126.out; have := O129.out; omega) hb)
  replace F22 := Aside0.mk (show Kd.R (Kd.int .i64) 3 w6 w.heap.size (fun k_ => (lo121 ≤ k_ ∧ k_ < hi122) ∧ True) (.slice A19 x25.length c20) x25 from Kd.R_below (by (with_reducible repeat (first | apply Kd.R_drewN | apply Kd.R_drew)); exact F22.out) hb)
  replace HC23 := Aside0.mk (show Kd.C (Kd.int .i64) w6 A19 x25.length x25 from Kd.C_below (by (with_reducible repeat (first | apply Kd.C_drewN | apply Kd.C_drew)); exact HC23.out) hb)
  replace F31 := Aside0.mk (show Kd.S (Kd.slice 3 (Kd.int .i64)) 31 w6 w.heap.size (fun k_ => (lo124 ≤ k_ ∧ k_ < hi125) ∧ True) (.slice A28 x10.length c29) x10 from Kd.S_below (by (with_reducible repeat (first | apply Kd.S_drewN | apply Kd.S_drew)); exact F31.out) hb)
  replace HC32 := Aside0.mk (show Kd.C (Kd.slice 3 (Kd.int .i64)) w6 A28 x10.length x10 from Kd.C_below (by (with_reducible repeat (first | apply Kd.C_drewN | apply Kd.C_drew)); exact HC32.out) hb)
  replace F37 := Aside0.mk (show Kd.S (Kd.slice 3 (Kd.int .i64)) 31 w6 w.heap.size (fun k_ => (lo127 ≤ k_ ∧ k_ < hi128) ∧ True) (.slice A34 x18.length c35) x18 from Kd.S_below (by (with_reducible repeat (first | apply Kd.S_drewN | apply Kd.S_drew)); exact F37.out) hb)
  replace HC38 := Aside0.mk (show Kd.C (Kd.slice 3 (Kd.int .i64)) w6 A34 x18.length x18 from Kd.C_below (by (with_reducible repeat (first | apply Kd.C_drewN | apply Kd.C_drew)); exact HC38.out) hb)
  obtain ⟨lo130, hi131, ho, hg⟩ := fresh_pts (N := hi128) hb (by exact HN.out)
  have O132 := Aside0.mk (show hi128 ≤ lo130 ∧ lo130 ≤ hi131 from ⟨ho.1, ho.2.1⟩)
  have hF43b := R_in hF43 hg (B := w.heap.size) (by have := O117.out; have := O120.out; have := O123.out; have := O126.out; have := O129.out; have := O132.out; omega)
  obtain ⟨A40, c41, rfl, hle, hC⟩ := Kd.R_reads hF43b
  have HC44 := Aside0.mk hC
  have HL45 := Aside0.mk hle
  clear hle hC
  have F43 := Aside0.mk (show Kd.R (Kd.int .i64) 3 w6 w.heap.size (fun k_ => (lo130 ≤ k_ ∧ k_ < hi131) ∧ True) (.slice A40 x25.length c41) x25 from hF43b)
  clear hF43 hF43b
  replace HN := Aside0.mk (show hi131 ≤ w6.heap.size from ho.2.2)
  clear ho hg
  replace HB := HB2
  clear HB2 hb
  go_wp2_with fail
  go_at_call 23
  refine (laws_eqIntS.calls k A40 c41 x25 A19 c20 x25 true _ (by (with_reducible repeat (first | apply Kd.C_drewN | apply Kd.C_drew)); exact HC44.out) HL45.out (by (with_reducible repeat (first | apply Kd.C_drewN | apply Kd.C_drew)); exact HC23.out) HL24.out H102.out).mono ?_
  rintro e w_133 ⟨rfl, ⟨nd134, rfl⟩⟩
  go_wp2_with fail
  go_at_call 13
  refine (laws_toIntSS.calls k A0 c0 l0 x10 _ (Kd.C_below HR0.out (by repeat (first | exact HB.out | apply pw_below_drewN | apply below_drew1))) HL0.out H98.out).mono ?_
  rintro e w7 ⟨v49, rfl, hF50, hb⟩
  have HB2 := Aside0.mk (below_next (N := hi131) (by repeat (first | exact HB.out | apply pw_below_drewN | apply below_drew1)) (by exact HN.out) (by have := O117.out; have := O120.out; have := O123.out; have := O126.out; have := O129.out; have := O132.out; omega) hb)
  replace F22 := Aside0.mk (show Kd.R (Kd.int .i64) 3 w7 w.heap.size (fun k_ => (lo121 ≤ k_ ∧ k_ < hi122) ∧ True) (.slice A19 x25.length c20) x25 from Kd.R_below (by (with_reducible repeat (first | apply Kd.R_drewN | apply Kd.R_drew)); exact F22.out) hb)
  replace HC23 := Aside0.mk (show Kd.C (Kd.int .i64) w7 A19 x25.length x25 from Kd.C_below (by (with_reducible repeat (first | apply Kd.C_drewN | apply Kd.C_drew)); exact HC23.out) hb)
  replace F31 := Aside0.mk (show Kd.S (Kd.slice 3 (Kd.int .i64)) 31 w7 w.heap.size (fun k_ => (lo124 ≤ k_ ∧ k_ < hi125) ∧ True) (.slice A28 x10.length c29) x10 from Kd.S_below (by (with_reducible repeat (first | apply Kd.S_drewN | apply Kd.S_drew)); exact F31.out) hb)
  replace HC32 := Aside0.mk (show Kd.C (Kd.slice 3 (Kd.int .i64)) w7 A28 x10.length x10 from Kd.C_below (by (with_reducible repeat (first | apply Kd.C_drewN | apply Kd.C_drew)); exact HC32.out) hb)
  replace F37 := Aside0.mk (show Kd.S (Kd.slice 3 (Kd.int .i64)) 31 w7 w.heap.size (fun k_ => (lo127 ≤ k_ ∧ k_ < hi128) ∧ True) (.slice A34 x18.length c35) x18 from Kd.S_below (by (with_reducible repeat (first | apply Kd.S_drewN | apply Kd.S_drew)); exact F37.out) hb)
  replace HC38 := Aside0.mk (show Kd.C (Kd.slice 3 (Kd.int .i64)) w7 A34 x18.length x18 from Kd.C_below (by (with_reducible repeat (first | apply Kd.C_drewN | apply Kd.C_drew)); exact HC38.out) hb)
  replace F43 := Aside0.mk (show Kd.R (Kd.int .i64) 3 w7 w.heap.size (fun k_ => (lo130 ≤ k_ ∧ k_ < hi131) ∧ True) (.slice A40 x25.length c41) x25 from Kd.R_below (by (with_reducible repeat (first | apply Kd.R_drewN | apply Kd.R_drew)); exact F43.out) hb)
  replace HC44 := Aside0.mk (show Kd.C (Kd.int .i64) w7 A40 x25.length x25 from Kd.C_below (by (with_reducible repeat (first | apply Kd.C_drewN | apply Kd.C_drew)); exact HC44.out) hb)
  obtain ⟨lo135, hi136, ho, hg⟩ := fresh_pts (N := hi131) hb (by exact HN.out)
  have O137 := Aside0.mk (show hi131 ≤ lo135 ∧ lo135 ≤ hi136 from ⟨ho.1, ho.2.1⟩)
  have hF50b := S_in hF50 hg (B := w.heap.size) (by have := O117.out; have := O120.out; have := O123.out; have := O126.out; have := O129.out; have := O132.out; have := O137.out; omega)
  obtain ⟨A47, c48, rfl, hle, hC⟩ := Kd.S_reads hF50b
  have HC51 := Aside0.mk hC
  have HL52 := Aside0.mk hle
  clear hle hC
  have F50 := Aside0.mk (show Kd.S (Kd.slice 3 (Kd.int .i64)) 31 w7 w.heap.size (fun k_ => (lo135 ≤ k_ ∧ k_ < hi136) ∧ True) (.slice A47 x10.length c48) x10 from hF50b)
  clear hF50 hF50b
  replace HN := Aside0.mk (show hi136 ≤ w7.heap.size from ho.2.2)
  clear ho hg
  replace HB := HB2
  clear HB2 hb
  go_wp2_with fail
  go_at_call 15
  refine (laws_eqIntSS.calls k A28 c29 x10 A47 c48 x10 true _ (by (with_reducible repeat (first | apply Kd.C_drewN | apply Kd.C_drew)); exact HC32.out) HL33.out (by (with_reducible repeat (first | apply Kd.C_drewN | apply Kd.C_drew)); exact HC51.out) HL52.out H103.out).mono ?_
  rintro e w_138 ⟨rfl, ⟨nd139, rfl⟩⟩
  clear F50 HC51
  go_wp2_with fail
  go_at_call 13
  refine (laws_toIntSS.calls k A1 c1 l1 x18 _ (Kd.C_below HR1.out (by repeat (first | exact HB.out | apply pw_below_drewN | apply below_drew1))) HL1.out H99.out).mono ?_
  rintro e w8 ⟨v56, rfl, hF57, hb⟩
  have HB2 := Aside0.mk (below_next (N := hi136) (by repeat (first | exact HB.out | apply pw_below_drewN | apply below_drew1)) (by exact HN.out) (by have := O117.out; have := O120.out; have := O123.out; have := O126.out; have := O129.out; have := O132.out; have := O137.out; omega) hb)
  replace F22 := Aside0.mk (show Kd.R (Kd.int .i64) 3 w8 w.heap.size (fun k_ => (lo121 ≤ k_ ∧ k_ < hi122) ∧ True) (.slice A19 x25.length c20) x25 from Kd.R_below (by (with_reducible repeat (first | apply Kd.R_drewN | apply Kd.R_drew)); exact F22.out) hb)
  replace HC23 := Aside0.mk (show Kd.C (Kd.int .i64) w8 A19 x25.length x25 from Kd.C_below (by (with_reducible repeat (first | apply Kd.C_drewN | apply Kd.C_drew)); exact HC23.out) hb)
  replace F31 := Aside0.mk (show Kd.S (Kd.slice 3 (Kd.int .i64)) 31 w8 w.heap.size (fun k_ => (lo124 ≤ k_ ∧ k_ < hi125) ∧ True) (.slice A28 x10.length c29) x10 from Kd.S_below (by (with_reducible repeat (first | apply Kd.S_drewN | apply Kd.S_drew)); exact F31.out) hb)
  replace HC32 := Aside0.mk (show Kd.C (Kd.slice 3 (Kd.int .i64)) w8 A28 x10.length x10 from Kd.C_below (by (with_reducible repeat (first | apply Kd.C_drewN | apply Kd.C_drew)); exact HC32.out) hb)
  replace F37 := Aside0.mk (show Kd.S (Kd.slice 3 (Kd.int .i64)) 31 w8 w.heap.size (fun k_ => (lo127 ≤ k_ ∧ k_ < hi128) ∧ True) (.slice A34 x18.length c35) x18 from Kd.S_below (by (with_reducible repeat (first | apply Kd.S_drewN | apply Kd.S_drew)); exact F37.out) hb)
  replace HC38 := Aside0.mk (show Kd.C (Kd.slice 3 (Kd.int .i64)) w8 A34 x18.length x18 from Kd.C_below (by (with_reducible repeat (first | apply Kd.C_drewN | apply Kd.C_drew)); exact HC38.out) hb)
  replace F43 := Aside0.mk (show Kd.R (Kd.int .i64) 3 w8 w.heap.size (fun k_ => (lo130 ≤ k_ ∧ k_ < hi131) ∧ True) (.slice A40 x25.length c41) x25 from Kd.R_below (by (with_reducible repeat (first | apply Kd.R_drewN | apply Kd.R_drew)); exact F43.out) hb)
  replace HC44 := Aside0.mk (show Kd.C (Kd.int .i64) w8 A40 x25.length x25 from Kd.C_below (by (with_reducible repeat (first | apply Kd.C_drewN | apply Kd.C_drew)); exact HC44.out) hb)
  obtain ⟨lo140, hi141, ho, hg⟩ := fresh_pts (N := hi136) hb (by exact HN.out)
  have O142 := Aside0.mk (show hi136 ≤ lo140 ∧ lo140 ≤ hi141 from ⟨ho.1, ho.2.1⟩)
  have hF57b := S_in hF57 hg (B := w.heap.size) (by have := O117.out; have := O120.out; have := O123.out; have := O126.out; have := O129.out; have := O132.out; have := O137.out; have := O142.out; omega)
  obtain ⟨A54, c55, rfl, hle, hC⟩ := Kd.S_reads hF57b
  have HC58 := Aside0.mk hC
  have HL59 := Aside0.mk hle
  clear hle hC
  have F57 := Aside0.mk (show Kd.S (Kd.slice 3 (Kd.int .i64)) 31 w8 w.heap.size (fun k_ => (lo140 ≤ k_ ∧ k_ < hi141) ∧ True) (.slice A54 x18.length c55) x18 from hF57b)
  clear hF57 hF57b
  replace HN := Aside0.mk (show hi141 ≤ w8.heap.size from ho.2.2)
  clear ho hg
  replace HB := HB2
  clear HB2 hb
  go_wp2_with fail
  go_at_call 15
  refine (laws_eqIntSS.calls k A34 c35 x18 A54 c55 x18 true _ (by (with_reducible repeat (first | apply Kd.C_drewN | apply Kd.C_drew)); exact HC38.out) HL39.out (by (with_reducible repeat (first | apply Kd.C_drewN | apply Kd.C_drew)); exact HC58.out) HL59.out H104.out).mono ?_
  rintro e w_143 ⟨rfl, ⟨nd144, rfl⟩⟩
  clear F57 HC58
  go_wp2_with fail
  go_at_call 26
  refine (laws_markIntSS.marks (fun k_ => (lo124 ≤ k_ ∧ k_ < hi125) ∧ True) (.slice A28 x10.length c29) x10 1 t60 x61 w _ (by repeat (first | exact HB.out | apply pw_below_drewN | apply below_drew1)) (by (with_reducible repeat (first | apply Kd.S_drewN | apply Kd.S_drew)); exact F31.out) H105.out).mono ?_
  rintro e w9 ⟨rfl, hF0, hB2, hK⟩
  replace F22 := Aside0.mk (show Kd.R (Kd.int .i64) 3 w9 w.heap.size (fun k_ => (lo121 ≤ k_ ∧ k_ < hi122) ∧ True) (.slice A19 x25.length c20) x25 from Kd.R_kept (S := (fun k_ => (lo124 ≤ k_ ∧ k_ < hi125) ∧ True)) (by (with_reducible repeat (first | apply Kd.R_drewN | apply Kd.R_drew)); exact F22.out) hK (fun k_ h1_ h2_ => by have h3_ := h1_.1; have h4_ := h2_.1; have := O117.out; have := O120.out; have := O123.out; have := O126.out; have := O129.out; have := O132.out; have := O137.out; have := O142.out; omega))
  replace HC23 := Aside0.mk (show Kd.C (Kd.int .i64) w9 A19 x25.length x25 from (Kd.R_reads' F22.out).2.2)
  replace F37 := Aside0.mk (show Kd.S (Kd.slice 3 (Kd.int .i64)) 31 w9 w.heap.size (fun k_ => (lo127 ≤ k_ ∧ k_ < hi128) ∧ True) (.slice A34 x18.length c35) x18 from Kd.S_kept (S := (fun k_ => (lo124 ≤ k_ ∧ k_ < hi125) ∧ True)) (by (with_reducible repeat (first | apply Kd.S_drewN | apply Kd.S_drew)); exact F37.out) hK (fun k_ h1_ h2_ => by have h3_ := h1_.1; have h4_ := h2_.1; have := O117.out; have := O120.out; have := O123.out; have := O126.out; have := O129.out; have := O132.out; have := O137.out; have := O142.out; omega))
  replace HC38 := Aside0.mk (show Kd.C (Kd.slice 3 (Kd.int .i64)) w9 A34 x18.length x18 from (Kd.S_reads' F37.out).2.2)
  replace F43 := Aside0.mk (show Kd.R (Kd.int .i64) 3 w9 w.heap.size (fun k_ => (lo130 ≤ k_ ∧ k_ < hi131) ∧ True) (.slice A40 x25.length c41) x25 from Kd.R_kept (S := (fun k_ => (lo124 ≤ k_ ∧ k_ < hi125) ∧ True)) (by (with_reducible repeat (first | apply Kd.R_drewN | apply Kd.R_drew)); exact F43.out) hK (fun k_ h1_ h2_ => by have h3_ := h1_.1; have h4_ := h2_.1; have := O117.out; have := O120.out; have := O123.out; have := O126.out; have := O129.out; have := O132.out; have := O137.out; have := O142.out; omega))
  replace HC44 := Aside0.mk (show Kd.C (Kd.int .i64) w9 A40 x25.length x25 from (Kd.R_reads' F43.out).2.2)
  clear F31 HC32
  replace HN := Aside0.mk (show hi141 ≤ w9.heap.size from Nat.le_trans HN.out hK.1)
  replace HB := Aside0.mk hB2
  clear hB2 hK hF0
  go_wp2_with fail
  go_at_call 26
  refine (laws_markIntSS.marks (fun k_ => (lo127 ≤ k_ ∧ k_ < hi128) ∧ True) (.slice A34 x18.length c35) x18 t60 t62 x63 w _ (by repeat (first | exact HB.out | apply pw_below_drewN | apply below_drew1)) (by (with_reducible repeat (first | apply Kd.S_drewN | apply Kd.S_drew)); exact F37.out) H106.out).mono ?_
  rintro e w10 ⟨rfl, hF0, hB2, hK⟩
  replace F22 := Aside0.mk (show Kd.R (Kd.int .i64) 3 w10 w.heap.size (fun k_ => (lo121 ≤ k_ ∧ k_ < hi122) ∧ True) (.slice A19 x25.length c20) x25 from Kd.R_kept (S := (fun k_ => (lo127 ≤ k_ ∧ k_ < hi128) ∧ True)) (by (with_reducible repeat (first | apply Kd.R_drewN | apply Kd.R_drew)); exact F22.out) hK (fun k_ h1_ h2_ => by have h3_ := h1_.1; have h4_ := h2_.1; have := O117.out; have := O120.out; have := O123.out; have := O126.out; have := O129.out; have := O132.out; have := O137.out; have := O142.out; omega))
  replace HC23 := Aside0.mk (show Kd.C (Kd.int .i64) w10 A19 x25.length x25 from (Kd.R_reads' F22.out).2.2)
  replace F43 := Aside0.mk (show Kd.R (Kd.int .i64) 3 w10 w.heap.size (fun k_ => (lo130 ≤ k_ ∧ k_ < hi131) ∧ True) (.slice A40 x25.length c41) x25 from Kd.R_kept (S := (fun k_ => (lo127 ≤ k_ ∧ k_ < hi128) ∧ True)) (by (with_reducible repeat (first | apply Kd.R_drewN | apply Kd.R_drew)); exact F43.out) hK (fun k_ h1_ h2_ => by have h3_ := h1_.1; have h4_ := h2_.1; have := O117.out; have := O120.out; have := O123.out; have := O126.out; have := O129.out; have := O132.out; have := O137.out; have := O142.out; omega))
  replace HC44 := Aside0.mk (show Kd.C (Kd.int .i64) w10 A40 x25.length x25 from (Kd.R_reads' F43.out).2.2)
  clear F37 HC38
  replace HN := Aside0.mk (show hi141 ≤ w10.heap.size from Nat.le_trans HN.out hK.1)
  replace HB := Aside0.mk hB2
  clear hB2 hK hF0
  have d147 : decide (t62 < 0) = false := decide_eq_false (by have := H107.out; omega)
  go_wp2_with fail
  go_at_call 23
  refine (laws_eqIntS.calls k A40 c41 x25 A19 c20 x25 true _ (by (with_reducible repeat (first | apply Kd.C_drewN | apply Kd.C_drew)); exact HC44.out) HL45.out (by (with_reducible repeat (first | apply Kd.C_drewN | apply Kd.C_drew)); exact HC23.out) HL24.out H102.out).mono ?_
  rintro e w_148 ⟨rfl, ⟨nd149, rfl⟩⟩
  go_wp2_with fail
  go_at_call 27
  refine (laws_markIntS.calls k (fun k_ => some k_ = (.slice A40 x25.length c41 : Value).ownBlock) (.slice A40 x25.length c41) x25 1 t64 x65 w _ (by repeat (first | exact HB.out | apply pw_below_drewN | apply below_drew1)) (Kd.R_tight rfl (by (with_reducible repeat (first | apply Kd.R_drewN | apply Kd.R_drew)); exact F43.out)) H108.out).mono ?_
  rintro e w11 ⟨rfl, hF0, hB2, hK⟩
  replace F22 := Aside0.mk (show Kd.R (Kd.int .i64) 3 w11 w.heap.size (fun k_ => (lo121 ≤ k_ ∧ k_ < hi122) ∧ True) (.slice A19 x25.length c20) x25 from Kd.R_kept (S := (fun k_ => some k_ = (.slice A40 x25.length c41 : Value).ownBlock)) (by (with_reducible repeat (first | apply Kd.R_drewN | apply Kd.R_drew)); exact F22.out) hK (fun k_ h1_ h2_ => (fun e_ => by have h3_ := h1_.1; have h4_ := (F43.out.1 k_ e_.symm).1; have := O117.out; have := O120.out; have := O123.out; have := O126.out; have := O129.out; have := O132.out; have := O137.out; have := O142.out; omega) h2_))
  replace HC23 := Aside0.mk (show Kd.C (Kd.int .i64) w11 A19 x25.length x25 from (Kd.R_reads' F22.out).2.2)
  replace F43 := Aside0.mk (show Kd.R (Kd.int .i64) 3 w11 w.heap.size (fun k_ => (lo130 ≤ k_ ∧ k_ < hi131) ∧ True) (.slice A40 x25.length c41) x65 from Kd.R_mono (Kd.R_tight rfl hF0) (fun k_ hk_ => F43.out.1 k_ hk_.symm))
  replace HC44 := Aside0.mk (show Kd.C (Kd.int .i64) w11 A40 x65.length x65 from (Kd.R_reads' F43.out).2.2)
  have HQ150 := Aside0.mk (show x25.length = x65.length from (Kd.R_reads' F43.out).1)
  replace HL45 := Aside0.mk (show x65.length ≤ c41 from by rw [← HQ150.out]; exact HL45.out)
  replace HN := Aside0.mk (show hi141 ≤ w11.heap.size from Nat.le_trans HN.out hK.1)
  replace HB := Aside0.mk hB2
  clear hB2 hK hF0
  go_wp2_with fail
  go_at_call 31
  refine calls_of_args (args' := #[.slice A40 x65.length c41, .int .i64 1]) (by rw [HQ150.out]) ?_
  refine (laws_heldIntS.calls k A40 c41 x65 1 t64 _ (by (with_reducible repeat (first | apply Kd.C_drewN | apply Kd.C_drew)); exact HC44.out) HL45.out H109.out).mono ?_
  rintro e w_151 ⟨rfl, ⟨nd152, rfl⟩⟩
  have d153 : decide (t64 < 0) = false := decide_eq_false (by have := H110.out; omega)
  go_wp2_with fail
  go_at_call 13
  refine (laws_toIntSS.calls k A0 c0 l0 x10 _ (Kd.C_below HR0.out (by repeat (first | exact HB.out | apply pw_below_drewN | apply below_drew1))) HL0.out H98.out).mono ?_
  rintro e w12 ⟨v69, rfl, hF70, hb⟩
  have HB2 := Aside0.mk (below_next (N := hi141) (by repeat (first | exact HB.out | apply pw_below_drewN | apply below_drew1)) (by exact HN.out) (by have := O117.out; have := O120.out; have := O123.out; have := O126.out; have := O129.out; have := O132.out; have := O137.out; have := O142.out; omega) hb)
  replace F22 := Aside0.mk (show Kd.R (Kd.int .i64) 3 w12 w.heap.size (fun k_ => (lo121 ≤ k_ ∧ k_ < hi122) ∧ True) (.slice A19 x25.length c20) x25 from Kd.R_below (by (with_reducible repeat (first | apply Kd.R_drewN | apply Kd.R_drew)); exact F22.out) hb)
  replace HC23 := Aside0.mk (show Kd.C (Kd.int .i64) w12 A19 x25.length x25 from Kd.C_below (by (with_reducible repeat (first | apply Kd.C_drewN | apply Kd.C_drew)); exact HC23.out) hb)
  replace F43 := Aside0.mk (show Kd.R (Kd.int .i64) 3 w12 w.heap.size (fun k_ => (lo130 ≤ k_ ∧ k_ < hi131) ∧ True) (.slice A40 x25.length c41) x65 from Kd.R_below (by (with_reducible repeat (first | apply Kd.R_drewN | apply Kd.R_drew)); exact F43.out) hb)
  replace HC44 := Aside0.mk (show Kd.C (Kd.int .i64) w12 A40 x65.length x65 from Kd.C_below (by (with_reducible repeat (first | apply Kd.C_drewN | apply Kd.C_drew)); exact HC44.out) hb)
  obtain ⟨lo154, hi155, ho, hg⟩ := fresh_pts (N := hi141) hb (by exact HN.out)
  have O156 := Aside0.mk (show hi141 ≤ lo154 ∧ lo154 ≤ hi155 from ⟨ho.1, ho.2.1⟩)
  have hF70b := S_in hF70 hg (B := w.heap.size) (by have := O117.out; have := O120.out; have := O123.out; have := O126.out; have := O129.out; have := O132.out; have := O137.out; have := O142.out; have := O156.out; omega)
  obtain ⟨A67, c68, rfl, hle, hC⟩ := Kd.S_reads hF70b
  have HC71 := Aside0.mk hC
  have HL72 := Aside0.mk hle
  clear hle hC
  have F70 := Aside0.mk (show Kd.S (Kd.slice 3 (Kd.int .i64)) 31 w12 w.heap.size (fun k_ => (lo154 ≤ k_ ∧ k_ < hi155) ∧ True) (.slice A67 x10.length c68) x10 from hF70b)
  clear hF70 hF70b
  replace HN := Aside0.mk (show hi155 ≤ w12.heap.size from ho.2.2)
  clear ho hg
  replace HB := HB2
  clear HB2 hb
  go_wp2_with fail
  go_at_call 13
  refine (laws_toIntSS.calls k A1 c1 l1 x18 _ (Kd.C_below HR1.out (by repeat (first | exact HB.out | apply pw_below_drewN | apply below_drew1))) HL1.out H99.out).mono ?_
  rintro e w13 ⟨v76, rfl, hF77, hb⟩
  have HB2 := Aside0.mk (below_next (N := hi155) (by repeat (first | exact HB.out | apply pw_below_drewN | apply below_drew1)) (by exact HN.out) (by have := O117.out; have := O120.out; have := O123.out; have := O126.out; have := O129.out; have := O132.out; have := O137.out; have := O142.out; have := O156.out; omega) hb)
  replace F22 := Aside0.mk (show Kd.R (Kd.int .i64) 3 w13 w.heap.size (fun k_ => (lo121 ≤ k_ ∧ k_ < hi122) ∧ True) (.slice A19 x25.length c20) x25 from Kd.R_below (by (with_reducible repeat (first | apply Kd.R_drewN | apply Kd.R_drew)); exact F22.out) hb)
  replace HC23 := Aside0.mk (show Kd.C (Kd.int .i64) w13 A19 x25.length x25 from Kd.C_below (by (with_reducible repeat (first | apply Kd.C_drewN | apply Kd.C_drew)); exact HC23.out) hb)
  replace F43 := Aside0.mk (show Kd.R (Kd.int .i64) 3 w13 w.heap.size (fun k_ => (lo130 ≤ k_ ∧ k_ < hi131) ∧ True) (.slice A40 x25.length c41) x65 from Kd.R_below (by (with_reducible repeat (first | apply Kd.R_drewN | apply Kd.R_drew)); exact F43.out) hb)
  replace HC44 := Aside0.mk (show Kd.C (Kd.int .i64) w13 A40 x65.length x65 from Kd.C_below (by (with_reducible repeat (first | apply Kd.C_drewN | apply Kd.C_drew)); exact HC44.out) hb)
  replace F70 := Aside0.mk (show Kd.S (Kd.slice 3 (Kd.int .i64)) 31 w13 w.heap.size (fun k_ => (lo154 ≤ k_ ∧ k_ < hi155) ∧ True) (.slice A67 x10.length c68) x10 from Kd.S_below (by (with_reducible repeat (first | apply Kd.S_drewN | apply Kd.S_drew)); exact F70.out) hb)
  replace HC71 := Aside0.mk (show Kd.C (Kd.slice 3 (Kd.int .i64)) w13 A67 x10.length x10 from Kd.C_below (by (with_reducible repeat (first | apply Kd.C_drewN | apply Kd.C_drew)); exact HC71.out) hb)
  obtain ⟨lo157, hi158, ho, hg⟩ := fresh_pts (N := hi155) hb (by exact HN.out)
  have O159 := Aside0.mk (show hi155 ≤ lo157 ∧ lo157 ≤ hi158 from ⟨ho.1, ho.2.1⟩)
  have hF77b := S_in hF77 hg (B := w.heap.size) (by have := O117.out; have := O120.out; have := O123.out; have := O126.out; have := O129.out; have := O132.out; have := O137.out; have := O142.out; have := O156.out; have := O159.out; omega)
  obtain ⟨A74, c75, rfl, hle, hC⟩ := Kd.S_reads hF77b
  have HC78 := Aside0.mk hC
  have HL79 := Aside0.mk hle
  clear hle hC
  have F77 := Aside0.mk (show Kd.S (Kd.slice 3 (Kd.int .i64)) 31 w13 w.heap.size (fun k_ => (lo157 ≤ k_ ∧ k_ < hi158) ∧ True) (.slice A74 x18.length c75) x18 from hF77b)
  clear hF77 hF77b
  replace HN := Aside0.mk (show hi158 ≤ w13.heap.size from ho.2.2)
  clear ho hg
  replace HB := HB2
  clear HB2 hb
  go_wp2_with fail
  go_at_call 30
  refine (impl_NextWay.calls k A67 c68 x10 A74 c75 x18 x25 x26 x27 _ (by (with_reducible repeat (first | apply Kd.C_drewN | apply Kd.C_drew)); exact HC71.out) HL72.out (by (with_reducible repeat (first | apply Kd.C_drewN | apply Kd.C_drew)); exact HC78.out) HL79.out H101.out).mono ?_
  rintro e w14 ⟨v82, rfl, hF83, hb⟩
  have HB2 := Aside0.mk (below_next (N := hi158) (by repeat (first | exact HB.out | apply pw_below_drewN | apply below_drew1)) (by exact HN.out) (by have := O117.out; have := O120.out; have := O123.out; have := O126.out; have := O129.out; have := O132.out; have := O137.out; have := O142.out; have := O156.out; have := O159.out; omega) hb)
  replace F22 := Aside0.mk (show Kd.R (Kd.int .i64) 3 w14 w.heap.size (fun k_ => (lo121 ≤ k_ ∧ k_ < hi122) ∧ True) (.slice A19 x25.length c20) x25 from Kd.R_below (by (with_reducible repeat (first | apply Kd.R_drewN | apply Kd.R_drew)); exact F22.out) hb)
  replace HC23 := Aside0.mk (show Kd.C (Kd.int .i64) w14 A19 x25.length x25 from Kd.C_below (by (with_reducible repeat (first | apply Kd.C_drewN | apply Kd.C_drew)); exact HC23.out) hb)
  replace F43 := Aside0.mk (show Kd.R (Kd.int .i64) 3 w14 w.heap.size (fun k_ => (lo130 ≤ k_ ∧ k_ < hi131) ∧ True) (.slice A40 x25.length c41) x65 from Kd.R_below (by (with_reducible repeat (first | apply Kd.R_drewN | apply Kd.R_drew)); exact F43.out) hb)
  replace HC44 := Aside0.mk (show Kd.C (Kd.int .i64) w14 A40 x65.length x65 from Kd.C_below (by (with_reducible repeat (first | apply Kd.C_drewN | apply Kd.C_drew)); exact HC44.out) hb)
  replace F70 := Aside0.mk (show Kd.S (Kd.slice 3 (Kd.int .i64)) 31 w14 w.heap.size (fun k_ => (lo154 ≤ k_ ∧ k_ < hi155) ∧ True) (.slice A67 x10.length c68) x10 from Kd.S_below (by (with_reducible repeat (first | apply Kd.S_drewN | apply Kd.S_drew)); exact F70.out) hb)
  replace HC71 := Aside0.mk (show Kd.C (Kd.slice 3 (Kd.int .i64)) w14 A67 x10.length x10 from Kd.C_below (by (with_reducible repeat (first | apply Kd.C_drewN | apply Kd.C_drew)); exact HC71.out) hb)
  replace F77 := Aside0.mk (show Kd.S (Kd.slice 3 (Kd.int .i64)) 31 w14 w.heap.size (fun k_ => (lo157 ≤ k_ ∧ k_ < hi158) ∧ True) (.slice A74 x18.length c75) x18 from Kd.S_below (by (with_reducible repeat (first | apply Kd.S_drewN | apply Kd.S_drew)); exact F77.out) hb)
  replace HC78 := Aside0.mk (show Kd.C (Kd.slice 3 (Kd.int .i64)) w14 A74 x18.length x18 from Kd.C_below (by (with_reducible repeat (first | apply Kd.C_drewN | apply Kd.C_drew)); exact HC78.out) hb)
  obtain ⟨lo160, hi161, ho, hg⟩ := fresh_pts (N := hi158) hb (by exact HN.out)
  have O162 := Aside0.mk (show hi158 ≤ lo160 ∧ lo160 ≤ hi161 from ⟨ho.1, ho.2.1⟩)
  have hF83b := R_in hF83 hg (B := w.heap.size) (by have := O117.out; have := O120.out; have := O123.out; have := O126.out; have := O129.out; have := O132.out; have := O137.out; have := O142.out; have := O156.out; have := O159.out; have := O162.out; omega)
  obtain ⟨A80, c81, rfl, hle, hC⟩ := Kd.R_reads hF83b
  have HC84 := Aside0.mk hC
  have HL85 := Aside0.mk hle
  clear hle hC
  have F83 := Aside0.mk (show Kd.R (Kd.int .i64) 3 w14 w.heap.size (fun k_ => (lo160 ≤ k_ ∧ k_ < hi161) ∧ True) (.slice A80 x25.length c81) x25 from hF83b)
  clear hF83 hF83b
  replace HN := Aside0.mk (show hi161 ≤ w14.heap.size from ho.2.2)
  clear ho hg
  replace HB := HB2
  clear HB2 hb
  clear F70 HC71
  clear F77 HC78
  go_wp2_with fail
  go_at_call 23
  refine (laws_eqIntS.calls k A80 c81 x25 A19 c20 x25 true _ (by (with_reducible repeat (first | apply Kd.C_drewN | apply Kd.C_drew)); exact HC84.out) HL85.out (by (with_reducible repeat (first | apply Kd.C_drewN | apply Kd.C_drew)); exact HC23.out) HL24.out H102.out).mono ?_
  rintro e w_163 ⟨rfl, ⟨nd164, rfl⟩⟩
  clear F22 HC23
  clear F83 HC84
  go_wp2_with fail
  go_at_call 31
  refine calls_of_args (args' := #[.slice A40 x65.length c41, .int .i64 1]) (by rw [HQ150.out]) ?_
  refine (laws_heldIntS.calls k A40 c41 x65 1 t64 _ (by (with_reducible repeat (first | apply Kd.C_drewN | apply Kd.C_drew)); exact HC44.out) HL45.out H109.out).mono ?_
  rintro e w_165 ⟨rfl, ⟨nd166, rfl⟩⟩
  clear F43 HC44
  have d167 : decide (t64 < 0) = false := decide_eq_false (by have := H110.out; omega)
  go_wp2_with fail
  go_ret
  exact ⟨rfl, (by repeat (first | exact HB.out | apply pw_below_drewN | apply below_drew1))⟩

/-- THE ONE PURE STATEMENT of laws_FnExactNextWay. -/
def laws_FnExactNextWay.Pure : Prop := ∀ (l0 : List (List Int)) (l1 : List (List Int)), (l0.length ≤ maxLen ∧ ∀ x ∈ l0, (x.length ≤ maxLen ∧ ∀ y_ ∈ x, (Lit.int .i64 y_).wf = true)) → (l1.length ≤ maxLen ∧ ∀ x ∈ l1, (x.length ≤ maxLen ∧ ∀ y_ ∈ x, (Lit.int .i64 y_).wf = true)) → ∃ k, laws_FnExactNextWay.f k l0 l1 = some true
theorem laws_FnExactNextWay.walk (P : laws_FnExactNextWay.Pure) (A0 : Option Addr) (c0 : Nat) (l0 : List (List Int)) (A1 : Option Addr) (c1 : Nat) (l1 : List (List Int)) (w : World) (hr0 : Kd.C (Kd.slice 3 (Kd.int .i64)) w A0 l0.length l0) (hc0 : l0.length ≤ c0) (hw0 : (l0.length ≤ maxLen ∧ ∀ x ∈ l0, (x.length ≤ maxLen ∧ ∀ y_ ∈ x, (Lit.int .i64 y_).wf = true))) (hr1 : Kd.C (Kd.slice 3 (Kd.int .i64)) w A1 l1.length l1) (hc1 : l1.length ≤ c1) (hw1 : (l1.length ≤ maxLen ∧ ∀ x ∈ l1, (x.length ≤ maxLen ∧ ∀ y_ ∈ x, (Lit.int .i64 y_).wf = true))) :
    Calls Try.prog 8 #[.slice A0 l0.length c0, .slice A1 l1.length c1] w fun e w' => e = .returned (.bool true) ∧ Below w.heap.size w w' := by
  obtain ⟨k, h⟩ := P l0 l1 hw0 hw1
  refine (laws_FnExactNextWay.calls k _ _ l0 _ _ l1 true w hr0 hc0 hr1 hc1 h).mono ?_
  rintro e w' ⟨rfl, hd⟩
  exact ⟨rfl, hd⟩

end Go.Proofs.Ytdbepjnapjjlcaa.GLNextWay
