-- Written by a program of this session (gprint.py), over the kit's print: not trusted: Lean checks it.
import Derived.Test.YtccnpnlmihcmlaaGLNewJob0
import Derived.Test.YtccnpnlmihcmlaaGLNewJob1
import Derived.Test.YtccnpnlmihcmlaaGLNewJob2
import Derived.Test.YtccnpnlmihcmlaaGLNewJob5
import Derived.Test.YtccnpnlmihcmlaaGLNewJob7
namespace Go.Proofs.Ytccnpnlmihcmlaa.GLNewJob
open Go.RowKit Go.Proofs.YtccnpnlmihcmlaaW.PrintWords Go.Proofs.YtccnpnlmihcmlaaW.PrintLast Go.Proofs.YtccnpnlmihcmlaaW.PrintMore Go.Proofs.YtccnpnlmihcmlaaW.PrintOwn
attribute [local go_sem] max2_int min2_int max_two min_two max_three min_three max_four min_four   -- for this text's walks alone
set_option linter.unusedVariables false
set_option linter.unusedSimpArgs false

/-! ### laws_FnExactNewJob: function 11 -/
instance inst_dec39 : DecidableEq S39 := fun a b => decidable_of_iff (a.f0 = b.f0 ∧ a.f1 = b.f1) ⟨by cases a; cases b; rintro ⟨⟨⟩, ⟨⟩⟩; rfl, by rintro rfl; exact ⟨rfl, rfl⟩⟩
instance inst_tail3_ListIntListIntListS39ListS39IntBool : DecidableEq ((List (S39)) × (Int) × (Bool)) := inferInstance
instance inst_tail1_ListIntListIntListS39ListS39IntBool : DecidableEq ((List Int) × (List (S39)) × (List (S39)) × (Int) × (Bool)) := inferInstance
def laws_FnExactNewJob.f (k : Nat) (l0 : List Int) (l1 : List Int) : Option (Bool) := if (l0.length : Int) > 1048576 then some true else (if (l1.length : Int) > 1048576 then some true else ((laws_toIntS.f k l0).bind fun x8 => ((laws_toIntS.f k l1).bind fun x16 => ((spec_NewJob.f k x8 x16).bind fun p => match p with | (x41, x42, x43, x44, x45, x46) => (if impl_NewJob.f k x8 x16 = some (x41, x42, x43, x44, x45, x46) then (if laws_eqJob.f k x41 x42 x43 x44 x45 x41 x42 x43 x44 x45 = some true then (if laws_eqIntS.f k x8 x8 = some true then (if laws_eqIntS.f k x16 x16 = some true then ((laws_markIntS.f k x8 1).bind fun p => match p with | (t97, x98) => ((laws_markIntS.f k x16 t97).bind fun p => match p with | (t99, x100) => (if 0 ≤ t99 then ((laws_markJob.f k x41 x42 x43 x44 x45 1).bind fun p => match p with | (t101, x102, x103, x104, x105) => (if laws_heldJob.f k x102 x103 x104 x105 x45 1 = some t101 then (if 0 ≤ t101 then (some true) else none) else none)) else none))) else none) else none) else none) else none)))))
set_option maxHeartbeats 16000000 in
set_option maxRecDepth 100000 in
theorem laws_FnExactNewJob.calls (k : Nat) (A0 : Option Addr) (c0 : Nat) (l0 : List Int) (A1 : Option Addr) (c1 : Nat) (l1 : List Int) (r : Bool) (w : World) (hr0 : Kd.C (Kd.int .i64) w A0 l0.length l0) (hc0 : l0.length ≤ c0) (hr1 : Kd.C (Kd.int .i64) w A1 l1.length l1) (hc1 : l1.length ≤ c1) (h : laws_FnExactNewJob.f k l0 l1 = some r) :
    Calls Try.prog 11 #[.slice A0 l0.length c0, .slice A1 l1.length c1] w fun e w' => e = .returned (.bool r) ∧ Below w.heap.size w w' := by
  have HR0 := Aside0.mk hr0
  have HL0 := Aside0.mk hc0
  clear hr0 hc0
  have HR1 := Aside0.mk hr1
  have HL1 := Aside0.mk hc1
  clear hr1 hc1
  unfold laws_FnExactNewJob.f at h
  by_cases c144 : (l0.length : Int) > 1048576
  · rw [if_pos c144] at h
    obtain rfl := Option.some.inj h
    clear h
    have d1 : decide ((l0.length : Int) > 1048576) = true := decide_eq_true c144
    have d2 : decide (1048576 < (l0.length : Int)) = true := decide_eq_true c144
    clear c144
    go_enter Try.func11, Try.ntmps11
    have HB := Aside0.mk (Below.refl w.heap.size w)
    have HN := Aside0.mk (Nat.le_refl w.heap.size)
    go_wp2_with fail
    go_ret
    exact ⟨rfl, (by repeat (first | exact HB.out | apply pw_below_drewN | apply below_drew1))⟩
  rw [if_neg c144] at h
  have d145 : decide ((l0.length : Int) > 1048576) = false := decide_eq_false c144
  have d145b : decide (1048576 < (l0.length : Int)) = false := decide_eq_false c144
  clear c144
  by_cases c146 : (l1.length : Int) > 1048576
  · rw [if_pos c146] at h
    obtain rfl := Option.some.inj h
    clear h
    have d1 : decide ((l1.length : Int) > 1048576) = true := decide_eq_true c146
    have d2 : decide (1048576 < (l1.length : Int)) = true := decide_eq_true c146
    clear c146
    go_enter Try.func11, Try.ntmps11
    have HB := Aside0.mk (Below.refl w.heap.size w)
    have HN := Aside0.mk (Nat.le_refl w.heap.size)
    go_wp2_with fail
    go_ret
    exact ⟨rfl, (by repeat (first | exact HB.out | apply pw_below_drewN | apply below_drew1))⟩
  rw [if_neg c146] at h
  have d147 : decide ((l1.length : Int) > 1048576) = false := decide_eq_false c146
  have d147b : decide (1048576 < (l1.length : Int)) = false := decide_eq_false c146
  clear c146
  replace h := Option.bind_eq_some_iff.mp h
  obtain ⟨x8, H1480, h⟩ := h
  have H148 := Aside0.mk H1480
  clear H1480
  try dsimp only at h
  replace h := Option.bind_eq_some_iff.mp h
  obtain ⟨x16, H1490, h⟩ := h
  have H149 := Aside0.mk H1490
  clear H1490
  try dsimp only at h
  replace h := Option.bind_eq_some_iff.mp h
  obtain ⟨⟨x41, x42, x43, x44, x45, x46⟩, H1500, h⟩ := h
  have H150 := Aside0.mk H1500
  clear H1500
  try dsimp only at h
  obtain ⟨H1510, h⟩ := need_of h
  have H151 := Aside0.mk H1510
  clear H1510
  obtain ⟨H1520, h⟩ := need_of h
  have H152 := Aside0.mk H1520
  clear H1520
  obtain ⟨H1530, h⟩ := need_of h
  have H153 := Aside0.mk H1530
  clear H1530
  obtain ⟨H1540, h⟩ := need_of h
  have H154 := Aside0.mk H1540
  clear H1540
  replace h := Option.bind_eq_some_iff.mp h
  obtain ⟨⟨t97, x98⟩, H1550, h⟩ := h
  have H155 := Aside0.mk H1550
  clear H1550
  try dsimp only at h
  replace h := Option.bind_eq_some_iff.mp h
  obtain ⟨⟨t99, x100⟩, H1560, h⟩ := h
  have H156 := Aside0.mk H1560
  clear H1560
  try dsimp only at h
  obtain ⟨H1570, h⟩ := need_of h
  have H157 := Aside0.mk H1570
  clear H1570
  replace h := Option.bind_eq_some_iff.mp h
  obtain ⟨⟨t101, x102, x103, x104, x105⟩, H1580, h⟩ := h
  have H158 := Aside0.mk H1580
  clear H1580
  try dsimp only at h
  obtain ⟨H1590, h⟩ := need_of h
  have H159 := Aside0.mk H1590
  clear H1590
  obtain ⟨H1600, h⟩ := need_of h
  have H160 := Aside0.mk H1600
  clear H1600
  obtain rfl := Option.some.inj h
  clear h
  go_enter Try.func11, Try.ntmps11
  have HB := Aside0.mk (Below.refl w.heap.size w)
  have HN := Aside0.mk (Nat.le_refl w.heap.size)
  go_wp2_with fail
  go_at_call 16
  refine (laws_toIntS.calls k A0 c0 l0 x8 _ (Kd.C_below HR0.out (by repeat (first | exact HB.out | apply pw_below_drewN | apply below_drew1))) HL0.out H148.out).mono ?_
  rintro e w1 ⟨v4, rfl, hF5, hb⟩
  have HB2 := Aside0.mk (below_next (N := w.heap.size) (by repeat (first | exact HB.out | apply pw_below_drewN | apply below_drew1)) (by exact HN.out) (by omega) hb)
  obtain ⟨lo161, hi162, ho, hg⟩ := fresh_pts (N := w.heap.size) hb (by exact HN.out)
  have O163 := Aside0.mk (show w.heap.size ≤ lo161 ∧ lo161 ≤ hi162 from ⟨ho.1, ho.2.1⟩)
  have hF5b := R_in hF5 hg (B := w.heap.size) (by have := O163.out; omega)
  obtain ⟨A2, c3, rfl, hle, hC⟩ := Kd.R_reads hF5b
  have HC6 := Aside0.mk hC
  have HL7 := Aside0.mk hle
  clear hle hC
  have F5 := Aside0.mk (show Kd.R (Kd.int .i64) 3 w1 w.heap.size (fun k_ => (lo161 ≤ k_ ∧ k_ < hi162) ∧ True) (.slice A2 x8.length c3) x8 from hF5b)
  clear hF5 hF5b
  replace HN := Aside0.mk (show hi162 ≤ w1.heap.size from ho.2.2)
  clear ho hg
  replace HB := HB2
  clear HB2 hb
  go_wp2_with fail
  go_at_call 16
  refine (laws_toIntS.calls k A1 c1 l1 x16 _ (Kd.C_below HR1.out (by repeat (first | exact HB.out | apply pw_below_drewN | apply below_drew1))) HL1.out H149.out).mono ?_
  rintro e w2 ⟨v12, rfl, hF13, hb⟩
  have HB2 := Aside0.mk (below_next (N := hi162) (by repeat (first | exact HB.out | apply pw_below_drewN | apply below_drew1)) (by exact HN.out) (by have := O163.out; omega) hb)
  replace F5 := Aside0.mk (show Kd.R (Kd.int .i64) 3 w2 w.heap.size (fun k_ => (lo161 ≤ k_ ∧ k_ < hi162) ∧ True) (.slice A2 x8.length c3) x8 from Kd.R_below (by (with_reducible repeat (first | apply Kd.R_drewN | apply Kd.R_drew)); exact F5.out) hb)
  replace HC6 := Aside0.mk (show Kd.C (Kd.int .i64) w2 A2 x8.length x8 from Kd.C_below (by (with_reducible repeat (first | apply Kd.C_drewN | apply Kd.C_drew)); exact HC6.out) hb)
  obtain ⟨lo164, hi165, ho, hg⟩ := fresh_pts (N := hi162) hb (by exact HN.out)
  have O166 := Aside0.mk (show hi162 ≤ lo164 ∧ lo164 ≤ hi165 from ⟨ho.1, ho.2.1⟩)
  have hF13b := R_in hF13 hg (B := w.heap.size) (by have := O163.out; have := O166.out; omega)
  obtain ⟨A10, c11, rfl, hle, hC⟩ := Kd.R_reads hF13b
  have HC14 := Aside0.mk hC
  have HL15 := Aside0.mk hle
  clear hle hC
  have F13 := Aside0.mk (show Kd.R (Kd.int .i64) 3 w2 w.heap.size (fun k_ => (lo164 ≤ k_ ∧ k_ < hi165) ∧ True) (.slice A10 x16.length c11) x16 from hF13b)
  clear hF13 hF13b
  replace HN := Aside0.mk (show hi165 ≤ w2.heap.size from ho.2.2)
  clear ho hg
  replace HB := HB2
  clear HB2 hb
  go_wp2_with fail
  go_at_call 44
  refine (spec_NewJob.calls k A2 c3 x8 A10 c11 x16 x41 x42 x43 x44 x45 x46 _ (by (with_reducible repeat (first | apply Kd.C_drewN | apply Kd.C_drew)); exact HC6.out) HL7.out (by (with_reducible repeat (first | apply Kd.C_drewN | apply Kd.C_drew)); exact HC14.out) HL15.out H150.out).mono ?_
  rintro e w3 ⟨v19, v25, v31, v37, rfl, hF20, hF26, hF32, hF38, hb⟩
  have HB2 := Aside0.mk (below_next (N := hi165) (by repeat (first | exact HB.out | apply pw_below_drewN | apply below_drew1)) (by exact HN.out) (by have := O163.out; have := O166.out; omega) hb)
  replace F5 := Aside0.mk (show Kd.R (Kd.int .i64) 3 w3 w.heap.size (fun k_ => (lo161 ≤ k_ ∧ k_ < hi162) ∧ True) (.slice A2 x8.length c3) x8 from Kd.R_below (by (with_reducible repeat (first | apply Kd.R_drewN | apply Kd.R_drew)); exact F5.out) hb)
  replace HC6 := Aside0.mk (show Kd.C (Kd.int .i64) w3 A2 x8.length x8 from Kd.C_below (by (with_reducible repeat (first | apply Kd.C_drewN | apply Kd.C_drew)); exact HC6.out) hb)
  replace F13 := Aside0.mk (show Kd.R (Kd.int .i64) 3 w3 w.heap.size (fun k_ => (lo164 ≤ k_ ∧ k_ < hi165) ∧ True) (.slice A10 x16.length c11) x16 from Kd.R_below (by (with_reducible repeat (first | apply Kd.R_drewN | apply Kd.R_drew)); exact F13.out) hb)
  replace HC14 := Aside0.mk (show Kd.C (Kd.int .i64) w3 A10 x16.length x16 from Kd.C_below (by (with_reducible repeat (first | apply Kd.C_drewN | apply Kd.C_drew)); exact HC14.out) hb)
  obtain ⟨lo167, hi168, ho, hg⟩ := fresh_pts (N := hi165) hb (by exact HN.out)
  have O169 := Aside0.mk (show hi165 ≤ lo167 ∧ lo167 ≤ hi168 from ⟨ho.1, ho.2.1⟩)
  have hF20b := R_in hF20 hg (B := w.heap.size) (by have := O163.out; have := O166.out; have := O169.out; omega)
  have hF26b := R_in hF26 hg (B := w.heap.size) (by have := O163.out; have := O166.out; have := O169.out; omega)
  have hF32b := R_in hF32 hg (B := w.heap.size) (by have := O163.out; have := O166.out; have := O169.out; omega)
  have hF38b := R_in hF38 hg (B := w.heap.size) (by have := O163.out; have := O166.out; have := O169.out; omega)
  obtain ⟨A17, c18, rfl, hle, hC⟩ := Kd.R_reads hF20b
  have HC21 := Aside0.mk hC
  have HL22 := Aside0.mk hle
  clear hle hC
  obtain ⟨A23, c24, rfl, hle, hC⟩ := Kd.R_reads hF26b
  have HC27 := Aside0.mk hC
  have HL28 := Aside0.mk hle
  clear hle hC
  obtain ⟨A29, c30, rfl, hle, hC⟩ := Kd.R_reads hF32b
  have HC33 := Aside0.mk hC
  have HL34 := Aside0.mk hle
  clear hle hC
  obtain ⟨A35, c36, rfl, hle, hC⟩ := Kd.R_reads hF38b
  have HC39 := Aside0.mk hC
  have HL40 := Aside0.mk hle
  clear hle hC
  have F20 := Aside0.mk (show Kd.R (Kd.int .i64) 3 w3 w.heap.size (fun k_ => (lo167 ≤ k_ ∧ k_ < hi168) ∧ some k_ ≠ (.slice A23 x42.length c24 : Value).ownBlock) (.slice A17 x41.length c18) x41 from hF20b)
  clear hF20 hF20b
  have F26 := Aside0.mk (show Kd.R (Kd.int .i64) 3 w3 w.heap.size (fun k_ => (lo167 ≤ k_ ∧ k_ < hi168) ∧ some k_ ≠ (.slice A17 x41.length c18 : Value).ownBlock) (.slice A23 x42.length c24) x42 from hF26b)
  clear hF26 hF26b
  have F32 := Aside0.mk (show Kd.R k39 39 w3 w.heap.size (fun k_ => (lo167 ≤ k_ ∧ k_ < hi168) ∧ some k_ ≠ (.slice A35 x44.length c36 : Value).ownBlock) (.slice A29 x43.length c30) x43 from hF32b)
  clear hF32 hF32b
  have F38 := Aside0.mk (show Kd.R k39 39 w3 w.heap.size (fun k_ => (lo167 ≤ k_ ∧ k_ < hi168) ∧ some k_ ≠ (.slice A29 x43.length c30 : Value).ownBlock) (.slice A35 x44.length c36) x44 from hF38b)
  clear hF38 hF38b
  replace HN := Aside0.mk (show hi168 ≤ w3.heap.size from ho.2.2)
  clear ho hg
  replace HB := HB2
  clear HB2 hb
  go_wp2_with ((with_reducible refine gate_dst (N := 5) rfl ?_); refine box_event ?hg (N := 5) ?hd (cs := #[.slice none 0 0, .slice none 0 0, .slice none 0 0, .slice none 0 0, .int .i64 0]) (t := 55) ?hr ?_; (case hd => rfl); (case hg => rfl); (case hr => first | (go_simp; done) | (go_simp; rfl)); intro gb5 hgb wb hbox hb0; have hz0 : wb.cell? ⟨gb5, 0, none⟩ = some (.slice none 0 0) := (blk_cell hbox 0).trans rfl; have hf0 := blk_frozen hbox 0; have hz1 : wb.cell? ⟨gb5, 1, none⟩ = some (.slice none 0 0) := (blk_cell hbox 1).trans rfl; have hf1 := blk_frozen hbox 1; have hz2 : wb.cell? ⟨gb5, 2, none⟩ = some (.slice none 0 0) := (blk_cell hbox 2).trans rfl; have hf2 := blk_frozen hbox 2; have hz3 : wb.cell? ⟨gb5, 3, none⟩ = some (.slice none 0 0) := (blk_cell hbox 3).trans rfl; have hf3 := blk_frozen hbox 3; have hz4 : wb.cell? ⟨gb5, 4, none⟩ = some (.int .i64 0) := (blk_cell hbox 4).trans rfl; have hf4 := blk_frozen hbox 4; have hb := below_set (g := gb5) (j := 4) (v := .int .i64 x45) (below_set (g := gb5) (j := 3) (v := .slice A35 x44.length c36) (below_set (g := gb5) (j := 2) (v := .slice A29 x43.length c30) (below_set (g := gb5) (j := 1) (v := .slice A23 x42.length c24) (below_set (g := gb5) (j := 0) (v := .slice A17 x41.length c18) (hb0) (Nat.le_of_eq hgb.symm)) (Nat.le_of_eq hgb.symm)) (Nat.le_of_eq hgb.symm)) (Nat.le_of_eq hgb.symm)) (Nat.le_of_eq hgb.symm); have BK5 := Aside0.mk (blk_set (blk_set (blk_set (blk_set (blk_set (hbox) 0 (.slice A17 x41.length c18)) 1 (.slice A23 x42.length c24)) 2 (.slice A29 x43.length c30)) 3 (.slice A35 x44.length c36)) 4 (.int .i64 x45)); have HGB := Aside0.mk hgb; clear hgb hbox hb0)
  generalize (((((wb).setCell ⟨gb5, 0, none⟩ (.slice A17 x41.length c18)).setCell ⟨gb5, 1, none⟩ (.slice A23 x42.length c24)).setCell ⟨gb5, 2, none⟩ (.slice A29 x43.length c30)).setCell ⟨gb5, 3, none⟩ (.slice A35 x44.length c36)).setCell ⟨gb5, 4, none⟩ (.int .i64 x45) = w4 at hb BK5 ⊢
  clear hz0 hf0 hz1 hf1 hz2 hf2 hz3 hf3 hz4 hf4
  replace BK5 := Aside0.mk (show w4.heap[gb5]? = some (.cells #[.slice A17 x41.length c18, .slice A23 x42.length c24, .slice A29 x43.length c30, .slice A35 x44.length c36, .int .i64 x45] 55 (0, 0)) from BK5.out)
  have HB2 := Aside0.mk (below_next (N := hi168) (by repeat (first | exact HB.out | apply pw_below_drewN | apply below_drew1)) (by exact HN.out) (by have := O163.out; have := O166.out; have := O169.out; omega) hb)
  replace F5 := Aside0.mk (show Kd.R (Kd.int .i64) 3 w4 w.heap.size (fun k_ => (lo161 ≤ k_ ∧ k_ < hi162) ∧ True) (.slice A2 x8.length c3) x8 from Kd.R_below (by (with_reducible repeat (first | apply Kd.R_drewN | apply Kd.R_drew)); exact F5.out) hb)
  replace HC6 := Aside0.mk (show Kd.C (Kd.int .i64) w4 A2 x8.length x8 from Kd.C_below (by (with_reducible repeat (first | apply Kd.C_drewN | apply Kd.C_drew)); exact HC6.out) hb)
  replace F13 := Aside0.mk (show Kd.R (Kd.int .i64) 3 w4 w.heap.size (fun k_ => (lo164 ≤ k_ ∧ k_ < hi165) ∧ True) (.slice A10 x16.length c11) x16 from Kd.R_below (by (with_reducible repeat (first | apply Kd.R_drewN | apply Kd.R_drew)); exact F13.out) hb)
  replace HC14 := Aside0.mk (show Kd.C (Kd.int .i64) w4 A10 x16.length x16 from Kd.C_below (by (with_reducible repeat (first | apply Kd.C_drewN | apply Kd.C_drew)); exact HC14.out) hb)
  replace F20 := Aside0.mk (show Kd.R (Kd.int .i64) 3 w4 w.heap.size (fun k_ => (lo167 ≤ k_ ∧ k_ < hi168) ∧ some k_ ≠ (.slice A23 x42.length c24 : Value).ownBlock) (.slice A17 x41.length c18) x41 from Kd.R_below (by (with_reducible repeat (first | apply Kd.R_drewN | apply Kd.R_drew)); exact F20.out) hb)
  replace HC21 := Aside0.mk (show Kd.C (Kd.int .i64) w4 A17 x41.length x41 from Kd.C_below (by (with_reducible repeat (first | apply Kd.C_drewN | apply Kd.C_drew)); exact HC21.out) hb)
  replace F26 := Aside0.mk (show Kd.R (Kd.int .i64) 3 w4 w.heap.size (fun k_ => (lo167 ≤ k_ ∧ k_ < hi168) ∧ some k_ ≠ (.slice A17 x41.length c18 : Value).ownBlock) (.slice A23 x42.length c24) x42 from Kd.R_below (by (with_reducible repeat (first | apply Kd.R_drewN | apply Kd.R_drew)); exact F26.out) hb)
  replace HC27 := Aside0.mk (show Kd.C (Kd.int .i64) w4 A23 x42.length x42 from Kd.C_below (by (with_reducible repeat (first | apply Kd.C_drewN | apply Kd.C_drew)); exact HC27.out) hb)
  replace F32 := Aside0.mk (show Kd.R k39 39 w4 w.heap.size (fun k_ => (lo167 ≤ k_ ∧ k_ < hi168) ∧ some k_ ≠ (.slice A35 x44.length c36 : Value).ownBlock) (.slice A29 x43.length c30) x43 from Kd.R_below (by (with_reducible repeat (first | apply Kd.R_drewN | apply Kd.R_drew)); exact F32.out) hb)
  replace HC33 := Aside0.mk (show Kd.C k39 w4 A29 x43.length x43 from Kd.C_below (by (with_reducible repeat (first | apply Kd.C_drewN | apply Kd.C_drew)); exact HC33.out) hb)
  replace F38 := Aside0.mk (show Kd.R k39 39 w4 w.heap.size (fun k_ => (lo167 ≤ k_ ∧ k_ < hi168) ∧ some k_ ≠ (.slice A29 x43.length c30 : Value).ownBlock) (.slice A35 x44.length c36) x44 from Kd.R_below (by (with_reducible repeat (first | apply Kd.R_drewN | apply Kd.R_drew)); exact F38.out) hb)
  replace HC39 := Aside0.mk (show Kd.C k39 w4 A35 x44.length x44 from Kd.C_below (by (with_reducible repeat (first | apply Kd.C_drewN | apply Kd.C_drew)); exact HC39.out) hb)
  obtain ⟨lo170, hi171, ho, hg⟩ := fresh_pts (N := hi168) hb (by exact HN.out)
  have O172 := Aside0.mk (show hi168 ≤ lo170 ∧ lo170 ≤ hi171 from ⟨ho.1, ho.2.1⟩)
  have EG5 := Aside0.mk (show gb5 = lo170 ∧ gb5 < hi171 from ⟨HGB.out.trans hg.1.symm, by rw [hg.2]; exact blk_lt BK5.out⟩)
  replace HN := Aside0.mk (show hi171 ≤ w4.heap.size from ho.2.2)
  clear ho hg HGB
  replace HB := HB2
  clear HB2 hb
  have k5_0 : w4.cell? ⟨gb5, 0, none⟩ = some (.slice A17 x41.length c18) := (blk_cell BK5.out 0).trans rfl
  have k5_1 : w4.cell? ⟨gb5, 1, none⟩ = some (.slice A23 x42.length c24) := (blk_cell BK5.out 1).trans rfl
  have k5_2 : w4.cell? ⟨gb5, 2, none⟩ = some (.slice A29 x43.length c30) := (blk_cell BK5.out 2).trans rfl
  have k5_3 : w4.cell? ⟨gb5, 3, none⟩ = some (.slice A35 x44.length c36) := (blk_cell BK5.out 3).trans rfl
  have k5_4 : w4.cell? ⟨gb5, 4, none⟩ = some (.int .i64 x45) := (blk_cell BK5.out 4).trans rfl
  clear F5 HC6
  clear F13 HC14
  go_wp2_with fail
  go_at_call 16
  refine (laws_toIntS.calls k A0 c0 l0 x8 _ (Kd.C_below HR0.out (by repeat (first | exact HB.out | apply pw_below_drewN | apply below_drew1))) HL0.out H148.out).mono ?_
  rintro e w5 ⟨v49, rfl, hF50, hb⟩
  have HB2 := Aside0.mk (below_next (N := hi171) (by repeat (first | exact HB.out | apply pw_below_drewN | apply below_drew1)) (by exact HN.out) (by have := O163.out; have := O166.out; have := O169.out; have := O172.out; omega) hb)
  replace F20 := Aside0.mk (show Kd.R (Kd.int .i64) 3 w5 w.heap.size (fun k_ => (lo167 ≤ k_ ∧ k_ < hi168) ∧ some k_ ≠ (.slice A23 x42.length c24 : Value).ownBlock) (.slice A17 x41.length c18) x41 from Kd.R_below (by (with_reducible repeat (first | apply Kd.R_drewN | apply Kd.R_drew)); exact F20.out) hb)
  replace HC21 := Aside0.mk (show Kd.C (Kd.int .i64) w5 A17 x41.length x41 from Kd.C_below (by (with_reducible repeat (first | apply Kd.C_drewN | apply Kd.C_drew)); exact HC21.out) hb)
  replace F26 := Aside0.mk (show Kd.R (Kd.int .i64) 3 w5 w.heap.size (fun k_ => (lo167 ≤ k_ ∧ k_ < hi168) ∧ some k_ ≠ (.slice A17 x41.length c18 : Value).ownBlock) (.slice A23 x42.length c24) x42 from Kd.R_below (by (with_reducible repeat (first | apply Kd.R_drewN | apply Kd.R_drew)); exact F26.out) hb)
  replace HC27 := Aside0.mk (show Kd.C (Kd.int .i64) w5 A23 x42.length x42 from Kd.C_below (by (with_reducible repeat (first | apply Kd.C_drewN | apply Kd.C_drew)); exact HC27.out) hb)
  replace F32 := Aside0.mk (show Kd.R k39 39 w5 w.heap.size (fun k_ => (lo167 ≤ k_ ∧ k_ < hi168) ∧ some k_ ≠ (.slice A35 x44.length c36 : Value).ownBlock) (.slice A29 x43.length c30) x43 from Kd.R_below (by (with_reducible repeat (first | apply Kd.R_drewN | apply Kd.R_drew)); exact F32.out) hb)
  replace HC33 := Aside0.mk (show Kd.C k39 w5 A29 x43.length x43 from Kd.C_below (by (with_reducible repeat (first | apply Kd.C_drewN | apply Kd.C_drew)); exact HC33.out) hb)
  replace F38 := Aside0.mk (show Kd.R k39 39 w5 w.heap.size (fun k_ => (lo167 ≤ k_ ∧ k_ < hi168) ∧ some k_ ≠ (.slice A29 x43.length c30 : Value).ownBlock) (.slice A35 x44.length c36) x44 from Kd.R_below (by (with_reducible repeat (first | apply Kd.R_drewN | apply Kd.R_drew)); exact F38.out) hb)
  replace HC39 := Aside0.mk (show Kd.C k39 w5 A35 x44.length x44 from Kd.C_below (by (with_reducible repeat (first | apply Kd.C_drewN | apply Kd.C_drew)); exact HC39.out) hb)
  replace BK5 := Aside0.mk (show w5.heap[gb5]? = some (.cells #[.slice A17 x41.length c18, .slice A23 x42.length c24, .slice A29 x43.length c30, .slice A35 x44.length c36, .int .i64 x45] 55 (0, 0)) from blk_below (by (with_reducible repeat (first | refine blk_drewN ?_ _ | refine blk_drew ?_)); exact BK5.out) hb)
  clear k5_0 k5_1 k5_2 k5_3 k5_4
  have k5_0 : w5.cell? ⟨gb5, 0, none⟩ = some (.slice A17 x41.length c18) := (blk_cell BK5.out 0).trans rfl
  have k5_1 : w5.cell? ⟨gb5, 1, none⟩ = some (.slice A23 x42.length c24) := (blk_cell BK5.out 1).trans rfl
  have k5_2 : w5.cell? ⟨gb5, 2, none⟩ = some (.slice A29 x43.length c30) := (blk_cell BK5.out 2).trans rfl
  have k5_3 : w5.cell? ⟨gb5, 3, none⟩ = some (.slice A35 x44.length c36) := (blk_cell BK5.out 3).trans rfl
  have k5_4 : w5.cell? ⟨gb5, 4, none⟩ = some (.int .i64 x45) := (blk_cell BK5.out 4).trans rfl
  obtain ⟨lo173, hi174, ho, hg⟩ := fresh_pts (N := hi171) hb (by exact HN.out)
  have O175 := Aside0.mk (show hi171 ≤ lo173 ∧ lo173 ≤ hi174 from ⟨ho.1, ho.2.1⟩)
  have hF50b := R_in hF50 hg (B := w.heap.size) (by have := O163.out; have := O166.out; have := O169.out; have := O172.out; have := O175.out; omega)
  obtain ⟨A47, c48, rfl, hle, hC⟩ := Kd.R_reads hF50b
  have HC51 := Aside0.mk hC
  have HL52 := Aside0.mk hle
  clear hle hC
  have F50 := Aside0.mk (show Kd.R (Kd.int .i64) 3 w5 w.heap.size (fun k_ => (lo173 ≤ k_ ∧ k_ < hi174) ∧ True) (.slice A47 x8.length c48) x8 from hF50b)
  clear hF50 hF50b
  replace HN := Aside0.mk (show hi174 ≤ w5.heap.size from ho.2.2)
  clear ho hg
  replace HB := HB2
  clear HB2 hb
  go_wp2_with fail
  go_at_call 16
  refine (laws_toIntS.calls k A1 c1 l1 x16 _ (Kd.C_below HR1.out (by repeat (first | exact HB.out | apply pw_below_drewN | apply below_drew1))) HL1.out H149.out).mono ?_
  rintro e w6 ⟨v55, rfl, hF56, hb⟩
  have HB2 := Aside0.mk (below_next (N := hi174) (by repeat (first | exact HB.out | apply pw_below_drewN | apply below_drew1)) (by exact HN.out) (by have := O163.out; have := O166.out; have := O169.out; have := O172.out; have := O175.out; omega) hb)
  replace F20 := Aside0.mk (show Kd.R (Kd.int .i64) 3 w6 w.heap.size (fun k_ => (lo167 ≤ k_ ∧ k_ < hi168) ∧ some k_ ≠ (.slice A23 x42.length c24 : Value).ownBlock) (.slice A17 x41.length c18) x41 from Kd.R_below (by (with_reducible repeat (first | apply Kd.R_drewN | apply Kd.R_drew)); exact F20.out) hb)
  replace HC21 := Aside0.mk (show Kd.C (Kd.int .i64) w6 A17 x41.length x41 from Kd.C_below (by (with_reducible repeat (first | apply Kd.C_drewN | apply Kd.C_drew)); exact HC21.out) hb)
  replace F26 := Aside0.mk (show Kd.R (Kd.int .i64) 3 w6 w.heap.size (fun k_ => (lo167 ≤ k_ ∧ k_ < hi168) ∧ some k_ ≠ (.slice A17 x41.length c18 : Value).ownBlock) (.slice A23 x42.length c24) x42 from Kd.R_below (by (with_reducible repeat (first | apply Kd.R_drewN | apply Kd.R_drew)); exact F26.out) hb)
  replace HC27 := Aside0.mk (show Kd.C (Kd.int .i64) w6 A23 x42.length x42 from Kd.C_below (by (with_reducible repeat (first | apply Kd.C_drewN | apply Kd.C_drew)); exact HC27.out) hb)
  replace F32 := Aside0.mk (show Kd.R k39 39 w6 w.heap.size (fun k_ => (lo167 ≤ k_ ∧ k_ < hi168) ∧ some k_ ≠ (.slice A35 x44.length c36 : Value).ownBlock) (.slice A29 x43.length c30) x43 from Kd.R_below (by (with_reducible repeat (first | apply Kd.R_drewN | apply Kd.R_drew)); exact F32.out) hb)
  replace HC33 := Aside0.mk (show Kd.C k39 w6 A29 x43.length x43 from Kd.C_below (by (with_reducible repeat (first | apply Kd.C_drewN | apply Kd.C_drew)); exact HC33.out) hb)
  replace F38 := Aside0.mk (show Kd.R k39 39 w6 w.heap.size (fun k_ => (lo167 ≤ k_ ∧ k_ < hi168) ∧ some k_ ≠ (.slice A29 x43.length c30 : Value).ownBlock) (.slice A35 x44.length c36) x44 from Kd.R_below (by (with_reducible repeat (first | apply Kd.R_drewN | apply Kd.R_drew)); exact F38.out) hb)
  replace HC39 := Aside0.mk (show Kd.C k39 w6 A35 x44.length x44 from Kd.C_below (by (with_reducible repeat (first | apply Kd.C_drewN | apply Kd.C_drew)); exact HC39.out) hb)
  replace F50 := Aside0.mk (show Kd.R (Kd.int .i64) 3 w6 w.heap.size (fun k_ => (lo173 ≤ k_ ∧ k_ < hi174) ∧ True) (.slice A47 x8.length c48) x8 from Kd.R_below (by (with_reducible repeat (first | apply Kd.R_drewN | apply Kd.R_drew)); exact F50.out) hb)
  replace HC51 := Aside0.mk (show Kd.C (Kd.int .i64) w6 A47 x8.length x8 from Kd.C_below (by (with_reducible repeat (first | apply Kd.C_drewN | apply Kd.C_drew)); exact HC51.out) hb)
  replace BK5 := Aside0.mk (show w6.heap[gb5]? = some (.cells #[.slice A17 x41.length c18, .slice A23 x42.length c24, .slice A29 x43.length c30, .slice A35 x44.length c36, .int .i64 x45] 55 (0, 0)) from blk_below (by (with_reducible repeat (first | refine blk_drewN ?_ _ | refine blk_drew ?_)); exact BK5.out) hb)
  clear k5_0 k5_1 k5_2 k5_3 k5_4
  have k5_0 : w6.cell? ⟨gb5, 0, none⟩ = some (.slice A17 x41.length c18) := (blk_cell BK5.out 0).trans rfl
  have k5_1 : w6.cell? ⟨gb5, 1, none⟩ = some (.slice A23 x42.length c24) := (blk_cell BK5.out 1).trans rfl
  have k5_2 : w6.cell? ⟨gb5, 2, none⟩ = some (.slice A29 x43.length c30) := (blk_cell BK5.out 2).trans rfl
  have k5_3 : w6.cell? ⟨gb5, 3, none⟩ = some (.slice A35 x44.length c36) := (blk_cell BK5.out 3).trans rfl
  have k5_4 : w6.cell? ⟨gb5, 4, none⟩ = some (.int .i64 x45) := (blk_cell BK5.out 4).trans rfl
  obtain ⟨lo176, hi177, ho, hg⟩ := fresh_pts (N := hi174) hb (by exact HN.out)
  have O178 := Aside0.mk (show hi174 ≤ lo176 ∧ lo176 ≤ hi177 from ⟨ho.1, ho.2.1⟩)
  have hF56b := R_in hF56 hg (B := w.heap.size) (by have := O163.out; have := O166.out; have := O169.out; have := O172.out; have := O175.out; have := O178.out; omega)
  obtain ⟨A53, c54, rfl, hle, hC⟩ := Kd.R_reads hF56b
  have HC57 := Aside0.mk hC
  have HL58 := Aside0.mk hle
  clear hle hC
  have F56 := Aside0.mk (show Kd.R (Kd.int .i64) 3 w6 w.heap.size (fun k_ => (lo176 ≤ k_ ∧ k_ < hi177) ∧ True) (.slice A53 x16.length c54) x16 from hF56b)
  clear hF56 hF56b
  replace HN := Aside0.mk (show hi177 ≤ w6.heap.size from ho.2.2)
  clear ho hg
  replace HB := HB2
  clear HB2 hb
  go_wp2_with fail
  go_at_call 45
  refine (impl_NewJob.calls k A47 c48 x8 A53 c54 x16 x41 x42 x43 x44 x45 x46 _ (by (with_reducible repeat (first | apply Kd.C_drewN | apply Kd.C_drew)); exact HC51.out) HL52.out (by (with_reducible repeat (first | apply Kd.C_drewN | apply Kd.C_drew)); exact HC57.out) HL58.out H151.out).mono ?_
  rintro e w7 ⟨v61, v67, v73, v79, rfl, hF62, hF68, hF74, hF80, hb⟩
  have HB2 := Aside0.mk (below_next (N := hi177) (by repeat (first | exact HB.out | apply pw_below_drewN | apply below_drew1)) (by exact HN.out) (by have := O163.out; have := O166.out; have := O169.out; have := O172.out; have := O175.out; have := O178.out; omega) hb)
  replace F20 := Aside0.mk (show Kd.R (Kd.int .i64) 3 w7 w.heap.size (fun k_ => (lo167 ≤ k_ ∧ k_ < hi168) ∧ some k_ ≠ (.slice A23 x42.length c24 : Value).ownBlock) (.slice A17 x41.length c18) x41 from Kd.R_below (by (with_reducible repeat (first | apply Kd.R_drewN | apply Kd.R_drew)); exact F20.out) hb)
  replace HC21 := Aside0.mk (show Kd.C (Kd.int .i64) w7 A17 x41.length x41 from Kd.C_below (by (with_reducible repeat (first | apply Kd.C_drewN | apply Kd.C_drew)); exact HC21.out) hb)
  replace F26 := Aside0.mk (show Kd.R (Kd.int .i64) 3 w7 w.heap.size (fun k_ => (lo167 ≤ k_ ∧ k_ < hi168) ∧ some k_ ≠ (.slice A17 x41.length c18 : Value).ownBlock) (.slice A23 x42.length c24) x42 from Kd.R_below (by (with_reducible repeat (first | apply Kd.R_drewN | apply Kd.R_drew)); exact F26.out) hb)
  replace HC27 := Aside0.mk (show Kd.C (Kd.int .i64) w7 A23 x42.length x42 from Kd.C_below (by (with_reducible repeat (first | apply Kd.C_drewN | apply Kd.C_drew)); exact HC27.out) hb)
  replace F32 := Aside0.mk (show Kd.R k39 39 w7 w.heap.size (fun k_ => (lo167 ≤ k_ ∧ k_ < hi168) ∧ some k_ ≠ (.slice A35 x44.length c36 : Value).ownBlock) (.slice A29 x43.length c30) x43 from Kd.R_below (by (with_reducible repeat (first | apply Kd.R_drewN | apply Kd.R_drew)); exact F32.out) hb)
  replace HC33 := Aside0.mk (show Kd.C k39 w7 A29 x43.length x43 from Kd.C_below (by (with_reducible repeat (first | apply Kd.C_drewN | apply Kd.C_drew)); exact HC33.out) hb)
  replace F38 := Aside0.mk (show Kd.R k39 39 w7 w.heap.size (fun k_ => (lo167 ≤ k_ ∧ k_ < hi168) ∧ some k_ ≠ (.slice A29 x43.length c30 : Value).ownBlock) (.slice A35 x44.length c36) x44 from Kd.R_below (by (with_reducible repeat (first | apply Kd.R_drewN | apply Kd.R_drew)); exact F38.out) hb)
  replace HC39 := Aside0.mk (show Kd.C k39 w7 A35 x44.length x44 from Kd.C_below (by (with_reducible repeat (first | apply Kd.C_drewN | apply Kd.C_drew)); exact HC39.out) hb)
  replace F50 := Aside0.mk (show Kd.R (Kd.int .i64) 3 w7 w.heap.size (fun k_ => (lo173 ≤ k_ ∧ k_ < hi174) ∧ True) (.slice A47 x8.length c48) x8 from Kd.R_below (by (with_reducible repeat (first | apply Kd.R_drewN | apply Kd.R_drew)); exact F50.out) hb)
  replace HC51 := Aside0.mk (show Kd.C (Kd.int .i64) w7 A47 x8.length x8 from Kd.C_below (by (with_reducible repeat (first | apply Kd.C_drewN | apply Kd.C_drew)); exact HC51.out) hb)
  replace F56 := Aside0.mk (show Kd.R (Kd.int .i64) 3 w7 w.heap.size (fun k_ => (lo176 ≤ k_ ∧ k_ < hi177) ∧ True) (.slice A53 x16.length c54) x16 from Kd.R_below (by (with_reducible repeat (first | apply Kd.R_drewN | apply Kd.R_drew)); exact F56.out) hb)
  replace HC57 := Aside0.mk (show Kd.C (Kd.int .i64) w7 A53 x16.length x16 from Kd.C_below (by (with_reducible repeat (first | apply Kd.C_drewN | apply Kd.C_drew)); exact HC57.out) hb)
  replace BK5 := Aside0.mk (show w7.heap[gb5]? = some (.cells #[.slice A17 x41.length c18, .slice A23 x42.length c24, .slice A29 x43.length c30, .slice A35 x44.length c36, .int .i64 x45] 55 (0, 0)) from blk_below (by (with_reducible repeat (first | refine blk_drewN ?_ _ | refine blk_drew ?_)); exact BK5.out) hb)
  clear k5_0 k5_1 k5_2 k5_3 k5_4
  have k5_0 : w7.cell? ⟨gb5, 0, none⟩ = some (.slice A17 x41.length c18) := (blk_cell BK5.out 0).trans rfl
  have k5_1 : w7.cell? ⟨gb5, 1, none⟩ = some (.slice A23 x42.length c24) := (blk_cell BK5.out 1).trans rfl
  have k5_2 : w7.cell? ⟨gb5, 2, none⟩ = some (.slice A29 x43.length c30) := (blk_cell BK5.out 2).trans rfl
  have k5_3 : w7.cell? ⟨gb5, 3, none⟩ = some (.slice A35 x44.length c36) := (blk_cell BK5.out 3).trans rfl
  have k5_4 : w7.cell? ⟨gb5, 4, none⟩ = some (.int .i64 x45) := (blk_cell BK5.out 4).trans rfl
  obtain ⟨lo179, hi180, ho, hg⟩ := fresh_pts (N := hi177) hb (by exact HN.out)
  have O181 := Aside0.mk (show hi177 ≤ lo179 ∧ lo179 ≤ hi180 from ⟨ho.1, ho.2.1⟩)
  have hF62b := R_in hF62 hg (B := w.heap.size) (by have := O163.out; have := O166.out; have := O169.out; have := O172.out; have := O175.out; have := O178.out; have := O181.out; omega)
  have hF68b := R_in hF68 hg (B := w.heap.size) (by have := O163.out; have := O166.out; have := O169.out; have := O172.out; have := O175.out; have := O178.out; have := O181.out; omega)
  have hF74b := R_in hF74 hg (B := w.heap.size) (by have := O163.out; have := O166.out; have := O169.out; have := O172.out; have := O175.out; have := O178.out; have := O181.out; omega)
  have hF80b := R_in hF80 hg (B := w.heap.size) (by have := O163.out; have := O166.out; have := O169.out; have := O172.out; have := O175.out; have := O178.out; have := O181.out; omega)
  obtain ⟨A59, c60, rfl, hle, hC⟩ := Kd.R_reads hF62b
  have HC63 := Aside0.mk hC
  have HL64 := Aside0.mk hle
  clear hle hC
  obtain ⟨A65, c66, rfl, hle, hC⟩ := Kd.R_reads hF68b
  have HC69 := Aside0.mk hC
  have HL70 := Aside0.mk hle
  clear hle hC
  obtain ⟨A71, c72, rfl, hle, hC⟩ := Kd.R_reads hF74b
  have HC75 := Aside0.mk hC
  have HL76 := Aside0.mk hle
  clear hle hC
  obtain ⟨A77, c78, rfl, hle, hC⟩ := Kd.R_reads hF80b
  have HC81 := Aside0.mk hC
  have HL82 := Aside0.mk hle
  clear hle hC
  have F62 := Aside0.mk (show Kd.R (Kd.int .i64) 3 w7 w.heap.size (fun k_ => (lo179 ≤ k_ ∧ k_ < hi180) ∧ some k_ ≠ (.slice A65 x42.length c66 : Value).ownBlock) (.slice A59 x41.length c60) x41 from hF62b)
  clear hF62 hF62b
  have F68 := Aside0.mk (show Kd.R (Kd.int .i64) 3 w7 w.heap.size (fun k_ => (lo179 ≤ k_ ∧ k_ < hi180) ∧ some k_ ≠ (.slice A59 x41.length c60 : Value).ownBlock) (.slice A65 x42.length c66) x42 from hF68b)
  clear hF68 hF68b
  have F74 := Aside0.mk (show Kd.R k39 39 w7 w.heap.size (fun k_ => (lo179 ≤ k_ ∧ k_ < hi180) ∧ some k_ ≠ (.slice A77 x44.length c78 : Value).ownBlock) (.slice A71 x43.length c72) x43 from hF74b)
  clear hF74 hF74b
  have F80 := Aside0.mk (show Kd.R k39 39 w7 w.heap.size (fun k_ => (lo179 ≤ k_ ∧ k_ < hi180) ∧ some k_ ≠ (.slice A71 x43.length c72 : Value).ownBlock) (.slice A77 x44.length c78) x44 from hF80b)
  clear hF80 hF80b
  replace HN := Aside0.mk (show hi180 ≤ w7.heap.size from ho.2.2)
  clear ho hg
  replace HB := HB2
  clear HB2 hb
  go_wp2_with ((with_reducible refine gate_dst (N := 9) rfl ?_); refine box_event ?hg (N := 9) ?hd (cs := #[.slice none 0 0, .slice none 0 0, .slice none 0 0, .slice none 0 0, .int .i64 0]) (t := 55) ?hr ?_; (case hd => rfl); (case hg => rfl); (case hr => first | (go_simp; done) | (go_simp; rfl)); intro gb9 hgb wb hbox hb0; have hz0 : wb.cell? ⟨gb9, 0, none⟩ = some (.slice none 0 0) := (blk_cell hbox 0).trans rfl; have hf0 := blk_frozen hbox 0; have hz1 : wb.cell? ⟨gb9, 1, none⟩ = some (.slice none 0 0) := (blk_cell hbox 1).trans rfl; have hf1 := blk_frozen hbox 1; have hz2 : wb.cell? ⟨gb9, 2, none⟩ = some (.slice none 0 0) := (blk_cell hbox 2).trans rfl; have hf2 := blk_frozen hbox 2; have hz3 : wb.cell? ⟨gb9, 3, none⟩ = some (.slice none 0 0) := (blk_cell hbox 3).trans rfl; have hf3 := blk_frozen hbox 3; have hz4 : wb.cell? ⟨gb9, 4, none⟩ = some (.int .i64 0) := (blk_cell hbox 4).trans rfl; have hf4 := blk_frozen hbox 4; have hx5_ := blk_below (by (with_reducible repeat (first | refine blk_drewN ?_ _ | refine blk_drew ?_)); exact BK5.out) hb0; have hw5_0 : wb.cell? ⟨gb5, 0, none⟩ = some (.slice A17 x41.length c18) := (blk_cell hx5_ 0).trans rfl; have hw5_1 : wb.cell? ⟨gb5, 1, none⟩ = some (.slice A23 x42.length c24) := (blk_cell hx5_ 1).trans rfl; have hw5_2 : wb.cell? ⟨gb5, 2, none⟩ = some (.slice A29 x43.length c30) := (blk_cell hx5_ 2).trans rfl; have hw5_3 : wb.cell? ⟨gb5, 3, none⟩ = some (.slice A35 x44.length c36) := (blk_cell hx5_ 3).trans rfl; have hw5_4 : wb.cell? ⟨gb5, 4, none⟩ = some (.int .i64 x45) := (blk_cell hx5_ 4).trans rfl; clear hx5_; have hne5_ : gb5 ≠ gb9 := Nat.ne_of_lt (Nat.lt_of_lt_of_eq (blk_lt (by (with_reducible repeat (first | refine blk_drewN ?_ _ | refine blk_drew ?_)); exact BK5.out)) hgb.symm); have hnf5_ := Ne.symm hne5_; have hb := below_set (g := gb9) (j := 4) (v := .int .i64 x45) (below_set (g := gb9) (j := 3) (v := .slice A77 x44.length c78) (below_set (g := gb9) (j := 2) (v := .slice A71 x43.length c72) (below_set (g := gb9) (j := 1) (v := .slice A65 x42.length c66) (below_set (g := gb9) (j := 0) (v := .slice A59 x41.length c60) (hb0) (Nat.le_of_eq hgb.symm)) (Nat.le_of_eq hgb.symm)) (Nat.le_of_eq hgb.symm)) (Nat.le_of_eq hgb.symm)) (Nat.le_of_eq hgb.symm); have BK9 := Aside0.mk (blk_set (blk_set (blk_set (blk_set (blk_set (hbox) 0 (.slice A59 x41.length c60)) 1 (.slice A65 x42.length c66)) 2 (.slice A71 x43.length c72)) 3 (.slice A77 x44.length c78)) 4 (.int .i64 x45)); have HGB := Aside0.mk hgb; clear hgb hbox hb0)
  generalize (((((wb).setCell ⟨gb9, 0, none⟩ (.slice A59 x41.length c60)).setCell ⟨gb9, 1, none⟩ (.slice A65 x42.length c66)).setCell ⟨gb9, 2, none⟩ (.slice A71 x43.length c72)).setCell ⟨gb9, 3, none⟩ (.slice A77 x44.length c78)).setCell ⟨gb9, 4, none⟩ (.int .i64 x45) = w8 at hb BK9 ⊢
  clear hz0 hf0 hz1 hf1 hz2 hf2 hz3 hf3 hz4 hf4 hne5_ hnf5_ hw5_0 hw5_1 hw5_2 hw5_3 hw5_4
  replace BK9 := Aside0.mk (show w8.heap[gb9]? = some (.cells #[.slice A59 x41.length c60, .slice A65 x42.length c66, .slice A71 x43.length c72, .slice A77 x44.length c78, .int .i64 x45] 55 (0, 0)) from BK9.out)
  have HB2 := Aside0.mk (below_next (N := hi180) (by repeat (first | exact HB.out | apply pw_below_drewN | apply below_drew1)) (by exact HN.out) (by have := O163.out; have := O166.out; have := O169.out; have := O172.out; have := O175.out; have := O178.out; have := O181.out; omega) hb)
  replace F20 := Aside0.mk (show Kd.R (Kd.int .i64) 3 w8 w.heap.size (fun k_ => (lo167 ≤ k_ ∧ k_ < hi168) ∧ some k_ ≠ (.slice A23 x42.length c24 : Value).ownBlock) (.slice A17 x41.length c18) x41 from Kd.R_below (by (with_reducible repeat (first | apply Kd.R_drewN | apply Kd.R_drew)); exact F20.out) hb)
  replace HC21 := Aside0.mk (show Kd.C (Kd.int .i64) w8 A17 x41.length x41 from Kd.C_below (by (with_reducible repeat (first | apply Kd.C_drewN | apply Kd.C_drew)); exact HC21.out) hb)
  replace F26 := Aside0.mk (show Kd.R (Kd.int .i64) 3 w8 w.heap.size (fun k_ => (lo167 ≤ k_ ∧ k_ < hi168) ∧ some k_ ≠ (.slice A17 x41.length c18 : Value).ownBlock) (.slice A23 x42.length c24) x42 from Kd.R_below (by (with_reducible repeat (first | apply Kd.R_drewN | apply Kd.R_drew)); exact F26.out) hb)
  replace HC27 := Aside0.mk (show Kd.C (Kd.int .i64) w8 A23 x42.length x42 from Kd.C_below (by (with_reducible repeat (first | apply Kd.C_drewN | apply Kd.C_drew)); exact HC27.out) hb)
  replace F32 := Aside0.mk (show Kd.R k39 39 w8 w.heap.size (fun k_ => (lo167 ≤ k_ ∧ k_ < hi168) ∧ some k_ ≠ (.slice A35 x44.length c36 : Value).ownBlock) (.slice A29 x43.length c30) x43 from Kd.R_below (by (with_reducible repeat (first | apply Kd.R_drewN | apply Kd.R_drew)); exact F32.out) hb)
  replace HC33 := Aside0.mk (show Kd.C k39 w8 A29 x43.length x43 from Kd.C_below (by (with_reducible repeat (first | apply Kd.C_drewN | apply Kd.C_drew)); exact HC33.out) hb)
  replace F38 := Aside0.mk (show Kd.R k39 39 w8 w.heap.size (fun k_ => (lo167 ≤ k_ ∧ k_ < hi168) ∧ some k_ ≠ (.slice A29 x43.length c30 : Value).ownBlock) (.slice A35 x44.length c36) x44 from Kd.R_below (by (with_reducible repeat (first | apply Kd.R_drewN | apply Kd.R_drew)); exact F38.out) hb)
  replace HC39 := Aside0.mk (show Kd.C k39 w8 A35 x44.length x44 from Kd.C_below (by (with_reducible repeat (first | apply Kd.C_drewN | apply Kd.C_drew)); exact HC39.out) hb)
  replace F50 := Aside0.mk (show Kd.R (Kd.int .i64) 3 w8 w.heap.size (fun k_ => (lo173 ≤ k_ ∧ k_ < hi174) ∧ True) (.slice A47 x8.length c48) x8 from Kd.R_below (by (with_reducible repeat (first | apply Kd.R_drewN | apply Kd.R_drew)); exact F50.out) hb)
  replace HC51 := Aside0.mk (show Kd.C (Kd.int .i64) w8 A47 x8.length x8 from Kd.C_below (by (with_reducible repeat (first | apply Kd.C_drewN | apply Kd.C_drew)); exact HC51.out) hb)
  replace F56 := Aside0.mk (show Kd.R (Kd.int .i64) 3 w8 w.heap.size (fun k_ => (lo176 ≤ k_ ∧ k_ < hi177) ∧ True) (.slice A53 x16.length c54) x16 from Kd.R_below (by (with_reducible repeat (first | apply Kd.R_drewN | apply Kd.R_drew)); exact F56.out) hb)
  replace HC57 := Aside0.mk (show Kd.C (Kd.int .i64) w8 A53 x16.length x16 from Kd.C_below (by (with_reducible repeat (first | apply Kd.C_drewN | apply Kd.C_drew)); exact HC57.out) hb)
  replace F62 := Aside0.mk (show Kd.R (Kd.int .i64) 3 w8 w.heap.size (fun k_ => (lo179 ≤ k_ ∧ k_ < hi180) ∧ some k_ ≠ (.slice A65 x42.length c66 : Value).ownBlock) (.slice A59 x41.length c60) x41 from Kd.R_below (by (with_reducible repeat (first | apply Kd.R_drewN | apply Kd.R_drew)); exact F62.out) hb)
  replace HC63 := Aside0.mk (show Kd.C (Kd.int .i64) w8 A59 x41.length x41 from Kd.C_below (by (with_reducible repeat (first | apply Kd.C_drewN | apply Kd.C_drew)); exact HC63.out) hb)
  replace F68 := Aside0.mk (show Kd.R (Kd.int .i64) 3 w8 w.heap.size (fun k_ => (lo179 ≤ k_ ∧ k_ < hi180) ∧ some k_ ≠ (.slice A59 x41.length c60 : Value).ownBlock) (.slice A65 x42.length c66) x42 from Kd.R_below (by (with_reducible repeat (first | apply Kd.R_drewN | apply Kd.R_drew)); exact F68.out) hb)
  replace HC69 := Aside0.mk (show Kd.C (Kd.int .i64) w8 A65 x42.length x42 from Kd.C_below (by (with_reducible repeat (first | apply Kd.C_drewN | apply Kd.C_drew)); exact HC69.out) hb)
  replace F74 := Aside0.mk (show Kd.R k39 39 w8 w.heap.size (fun k_ => (lo179 ≤ k_ ∧ k_ < hi180) ∧ some k_ ≠ (.slice A77 x44.length c78 : Value).ownBlock) (.slice A71 x43.length c72) x43 from Kd.R_below (by (with_reducible repeat (first | apply Kd.R_drewN | apply Kd.R_drew)); exact F74.out) hb)
  replace HC75 := Aside0.mk (show Kd.C k39 w8 A71 x43.length x43 from Kd.C_below (by (with_reducible repeat (first | apply Kd.C_drewN | apply Kd.C_drew)); exact HC75.out) hb)
  replace F80 := Aside0.mk (show Kd.R k39 39 w8 w.heap.size (fun k_ => (lo179 ≤ k_ ∧ k_ < hi180) ∧ some k_ ≠ (.slice A71 x43.length c72 : Value).ownBlock) (.slice A77 x44.length c78) x44 from Kd.R_below (by (with_reducible repeat (first | apply Kd.R_drewN | apply Kd.R_drew)); exact F80.out) hb)
  replace HC81 := Aside0.mk (show Kd.C k39 w8 A77 x44.length x44 from Kd.C_below (by (with_reducible repeat (first | apply Kd.C_drewN | apply Kd.C_drew)); exact HC81.out) hb)
  replace BK5 := Aside0.mk (show w8.heap[gb5]? = some (.cells #[.slice A17 x41.length c18, .slice A23 x42.length c24, .slice A29 x43.length c30, .slice A35 x44.length c36, .int .i64 x45] 55 (0, 0)) from blk_below (by (with_reducible repeat (first | refine blk_drewN ?_ _ | refine blk_drew ?_)); exact BK5.out) hb)
  clear k5_0 k5_1 k5_2 k5_3 k5_4
  have k5_0 : w8.cell? ⟨gb5, 0, none⟩ = some (.slice A17 x41.length c18) := (blk_cell BK5.out 0).trans rfl
  have k5_1 : w8.cell? ⟨gb5, 1, none⟩ = some (.slice A23 x42.length c24) := (blk_cell BK5.out 1).trans rfl
  have k5_2 : w8.cell? ⟨gb5, 2, none⟩ = some (.slice A29 x43.length c30) := (blk_cell BK5.out 2).trans rfl
  have k5_3 : w8.cell? ⟨gb5, 3, none⟩ = some (.slice A35 x44.length c36) := (blk_cell BK5.out 3).trans rfl
  have k5_4 : w8.cell? ⟨gb5, 4, none⟩ = some (.int .i64 x45) := (blk_cell BK5.out 4).trans rfl
  obtain ⟨lo182, hi183, ho, hg⟩ := fresh_pts (N := hi180) hb (by exact HN.out)
  have O184 := Aside0.mk (show hi180 ≤ lo182 ∧ lo182 ≤ hi183 from ⟨ho.1, ho.2.1⟩)
  have EG9 := Aside0.mk (show gb9 = lo182 ∧ gb9 < hi183 from ⟨HGB.out.trans hg.1.symm, by rw [hg.2]; exact blk_lt BK9.out⟩)
  replace HN := Aside0.mk (show hi183 ≤ w8.heap.size from ho.2.2)
  clear ho hg HGB
  replace HB := HB2
  clear HB2 hb
  have k9_0 : w8.cell? ⟨gb9, 0, none⟩ = some (.slice A59 x41.length c60) := (blk_cell BK9.out 0).trans rfl
  have k9_1 : w8.cell? ⟨gb9, 1, none⟩ = some (.slice A65 x42.length c66) := (blk_cell BK9.out 1).trans rfl
  have k9_2 : w8.cell? ⟨gb9, 2, none⟩ = some (.slice A71 x43.length c72) := (blk_cell BK9.out 2).trans rfl
  have k9_3 : w8.cell? ⟨gb9, 3, none⟩ = some (.slice A77 x44.length c78) := (blk_cell BK9.out 3).trans rfl
  have k9_4 : w8.cell? ⟨gb9, 4, none⟩ = some (.int .i64 x45) := (blk_cell BK9.out 4).trans rfl
  go_wp2_with fail
  go_at_call 43
  refine (laws_eqJob.calls k A59 c60 x41 A65 c66 x42 A71 c72 x43 A77 c78 x44 x45 A17 c18 x41 A23 c24 x42 A29 c30 x43 A35 c36 x44 x45 true _ (by (with_reducible repeat (first | apply Kd.C_drewN | apply Kd.C_drew)); exact HC63.out) HL64.out (by (with_reducible repeat (first | apply Kd.C_drewN | apply Kd.C_drew)); exact HC69.out) HL70.out (by (with_reducible repeat (first | apply Kd.C_drewN | apply Kd.C_drew)); exact HC75.out) HL76.out (by (with_reducible repeat (first | apply Kd.C_drewN | apply Kd.C_drew)); exact HC81.out) HL82.out (by (with_reducible repeat (first | apply Kd.C_drewN | apply Kd.C_drew)); exact HC21.out) HL22.out (by (with_reducible repeat (first | apply Kd.C_drewN | apply Kd.C_drew)); exact HC27.out) HL28.out (by (with_reducible repeat (first | apply Kd.C_drewN | apply Kd.C_drew)); exact HC33.out) HL34.out (by (with_reducible repeat (first | apply Kd.C_drewN | apply Kd.C_drew)); exact HC39.out) HL40.out H152.out).mono ?_
  rintro e w9 ⟨rfl, hb⟩
  have HB2 := Aside0.mk (below_next (N := hi183) (by repeat (first | exact HB.out | apply pw_below_drewN | apply below_drew1)) (by exact HN.out) (by have := O163.out; have := O166.out; have := O169.out; have := O172.out; have := O175.out; have := O178.out; have := O181.out; have := O184.out; omega) hb)
  replace F20 := Aside0.mk (show Kd.R (Kd.int .i64) 3 w9 w.heap.size (fun k_ => (lo167 ≤ k_ ∧ k_ < hi168) ∧ some k_ ≠ (.slice A23 x42.length c24 : Value).ownBlock) (.slice A17 x41.length c18) x41 from Kd.R_below (by (with_reducible repeat (first | apply Kd.R_drewN | apply Kd.R_drew)); exact F20.out) hb)
  replace HC21 := Aside0.mk (show Kd.C (Kd.int .i64) w9 A17 x41.length x41 from Kd.C_below (by (with_reducible repeat (first | apply Kd.C_drewN | apply Kd.C_drew)); exact HC21.out) hb)
  replace F26 := Aside0.mk (show Kd.R (Kd.int .i64) 3 w9 w.heap.size (fun k_ => (lo167 ≤ k_ ∧ k_ < hi168) ∧ some k_ ≠ (.slice A17 x41.length c18 : Value).ownBlock) (.slice A23 x42.length c24) x42 from Kd.R_below (by (with_reducible repeat (first | apply Kd.R_drewN | apply Kd.R_drew)); exact F26.out) hb)
  replace HC27 := Aside0.mk (show Kd.C (Kd.int .i64) w9 A23 x42.length x42 from Kd.C_below (by (with_reducible repeat (first | apply Kd.C_drewN | apply Kd.C_drew)); exact HC27.out) hb)
  replace F32 := Aside0.mk (show Kd.R k39 39 w9 w.heap.size (fun k_ => (lo167 ≤ k_ ∧ k_ < hi168) ∧ some k_ ≠ (.slice A35 x44.length c36 : Value).ownBlock) (.slice A29 x43.length c30) x43 from Kd.R_below (by (with_reducible repeat (first | apply Kd.R_drewN | apply Kd.R_drew)); exact F32.out) hb)
  replace HC33 := Aside0.mk (show Kd.C k39 w9 A29 x43.length x43 from Kd.C_below (by (with_reducible repeat (first | apply Kd.C_drewN | apply Kd.C_drew)); exact HC33.out) hb)
  replace F38 := Aside0.mk (show Kd.R k39 39 w9 w.heap.size (fun k_ => (lo167 ≤ k_ ∧ k_ < hi168) ∧ some k_ ≠ (.slice A29 x43.length c30 : Value).ownBlock) (.slice A35 x44.length c36) x44 from Kd.R_below (by (with_reducible repeat (first | apply Kd.R_drewN | apply Kd.R_drew)); exact F38.out) hb)
  replace HC39 := Aside0.mk (show Kd.C k39 w9 A35 x44.length x44 from Kd.C_below (by (with_reducible repeat (first | apply Kd.C_drewN | apply Kd.C_drew)); exact HC39.out) hb)
  replace F50 := Aside0.mk (show Kd.R (Kd.int .i64) 3 w9 w.heap.size (fun k_ => (lo173 ≤ k_ ∧ k_ < hi174) ∧ True) (.slice A47 x8.length c48) x8 from Kd.R_below (by (with_reducible repeat (first | apply Kd.R_drewN | apply Kd.R_drew)); exact F50.out) hb)
  replace HC51 := Aside0.mk (show Kd.C (Kd.int .i64) w9 A47 x8.length x8 from Kd.C_below (by (with_reducible repeat (first | apply Kd.C_drewN | apply Kd.C_drew)); exact HC51.out) hb)
  replace F56 := Aside0.mk (show Kd.R (Kd.int .i64) 3 w9 w.heap.size (fun k_ => (lo176 ≤ k_ ∧ k_ < hi177) ∧ True) (.slice A53 x16.length c54) x16 from Kd.R_below (by (with_reducible repeat (first | apply Kd.R_drewN | apply Kd.R_drew)); exact F56.out) hb)
  replace HC57 := Aside0.mk (show Kd.C (Kd.int .i64) w9 A53 x16.length x16 from Kd.C_below (by (with_reducible repeat (first | apply Kd.C_drewN | apply Kd.C_drew)); exact HC57.out) hb)
  replace F62 := Aside0.mk (show Kd.R (Kd.int .i64) 3 w9 w.heap.size (fun k_ => (lo179 ≤ k_ ∧ k_ < hi180) ∧ some k_ ≠ (.slice A65 x42.length c66 : Value).ownBlock) (.slice A59 x41.length c60) x41 from Kd.R_below (by (with_reducible repeat (first | apply Kd.R_drewN | apply Kd.R_drew)); exact F62.out) hb)
  replace HC63 := Aside0.mk (show Kd.C (Kd.int .i64) w9 A59 x41.length x41 from Kd.C_below (by (with_reducible repeat (first | apply Kd.C_drewN | apply Kd.C_drew)); exact HC63.out) hb)
  replace F68 := Aside0.mk (show Kd.R (Kd.int .i64) 3 w9 w.heap.size (fun k_ => (lo179 ≤ k_ ∧ k_ < hi180) ∧ some k_ ≠ (.slice A59 x41.length c60 : Value).ownBlock) (.slice A65 x42.length c66) x42 from Kd.R_below (by (with_reducible repeat (first | apply Kd.R_drewN | apply Kd.R_drew)); exact F68.out) hb)
  replace HC69 := Aside0.mk (show Kd.C (Kd.int .i64) w9 A65 x42.length x42 from Kd.C_below (by (with_reducible repeat (first | apply Kd.C_drewN | apply Kd.C_drew)); exact HC69.out) hb)
  replace F74 := Aside0.mk (show Kd.R k39 39 w9 w.heap.size (fun k_ => (lo179 ≤ k_ ∧ k_ < hi180) ∧ some k_ ≠ (.slice A77 x44.length c78 : Value).ownBlock) (.slice A71 x43.length c72) x43 from Kd.R_below (by (with_reducible repeat (first | apply Kd.R_drewN | apply Kd.R_drew)); exact F74.out) hb)
  replace HC75 := Aside0.mk (show Kd.C k39 w9 A71 x43.length x43 from Kd.C_below (by (with_reducible repeat (first | apply Kd.C_drewN | apply Kd.C_drew)); exact HC75.out) hb)
  replace F80 := Aside0.mk (show Kd.R k39 39 w9 w.heap.size (fun k_ => (lo179 ≤ k_ ∧ k_ < hi180) ∧ some k_ ≠ (.slice A71 x43.length c72 : Value).ownBlock) (.slice A77 x44.length c78) x44 from Kd.R_below (by (with_reducible repeat (first | apply Kd.R_drewN | apply Kd.R_drew)); exact F80.out) hb)
  replace HC81 := Aside0.mk (show Kd.C k39 w9 A77 x44.length x44 from Kd.C_below (by (with_reducible repeat (first | apply Kd.C_drewN | apply Kd.C_drew)); exact HC81.out) hb)
  replace BK5 := Aside0.mk (show w9.heap[gb5]? = some (.cells #[.slice A17 x41.length c18, .slice A23 x42.length c24, .slice A29 x43.length c30, .slice A35 x44.length c36, .int .i64 x45] 55 (0, 0)) from blk_below (by (with_reducible repeat (first | refine blk_drewN ?_ _ | refine blk_drew ?_)); exact BK5.out) hb)
  clear k5_0 k5_1 k5_2 k5_3 k5_4
  have k5_0 : w9.cell? ⟨gb5, 0, none⟩ = some (.slice A17 x41.length c18) := (blk_cell BK5.out 0).trans rfl
  have k5_1 : w9.cell? ⟨gb5, 1, none⟩ = some (.slice A23 x42.length c24) := (blk_cell BK5.out 1).trans rfl
  have k5_2 : w9.cell? ⟨gb5, 2, none⟩ = some (.slice A29 x43.length c30) := (blk_cell BK5.out 2).trans rfl
  have k5_3 : w9.cell? ⟨gb5, 3, none⟩ = some (.slice A35 x44.length c36) := (blk_cell BK5.out 3).trans rfl
  have k5_4 : w9.cell? ⟨gb5, 4, none⟩ = some (.int .i64 x45) := (blk_cell BK5.out 4).trans rfl
  replace BK9 := Aside0.mk (show w9.heap[gb9]? = some (.cells #[.slice A59 x41.length c60, .slice A65 x42.length c66, .slice A71 x43.length c72, .slice A77 x44.length c78, .int .i64 x45] 55 (0, 0)) from blk_below (by (with_reducible repeat (first | refine blk_drewN ?_ _ | refine blk_drew ?_)); exact BK9.out) hb)
  clear k9_0 k9_1 k9_2 k9_3 k9_4
  have k9_0 : w9.cell? ⟨gb9, 0, none⟩ = some (.slice A59 x41.length c60) := (blk_cell BK9.out 0).trans rfl
  have k9_1 : w9.cell? ⟨gb9, 1, none⟩ = some (.slice A65 x42.length c66) := (blk_cell BK9.out 1).trans rfl
  have k9_2 : w9.cell? ⟨gb9, 2, none⟩ = some (.slice A71 x43.length c72) := (blk_cell BK9.out 2).trans rfl
  have k9_3 : w9.cell? ⟨gb9, 3, none⟩ = some (.slice A77 x44.length c78) := (blk_cell BK9.out 3).trans rfl
  have k9_4 : w9.cell? ⟨gb9, 4, none⟩ = some (.int .i64 x45) := (blk_cell BK9.out 4).trans rfl
  replace HN := Aside0.mk (show hi183 ≤ w9.heap.size from Nat.le_trans HN.out hb.size)
  replace HB := HB2
  clear HB2 hb
  go_wp2_with fail
  go_at_call 16
  refine (laws_toIntS.calls k A0 c0 l0 x8 _ (Kd.C_below HR0.out (by repeat (first | exact HB.out | apply pw_below_drewN | apply below_drew1))) HL0.out H148.out).mono ?_
  rintro e w10 ⟨v86, rfl, hF87, hb⟩
  have HB2 := Aside0.mk (below_next (N := hi183) (by repeat (first | exact HB.out | apply pw_below_drewN | apply below_drew1)) (by exact HN.out) (by have := O163.out; have := O166.out; have := O169.out; have := O172.out; have := O175.out; have := O178.out; have := O181.out; have := O184.out; omega) hb)
  replace F20 := Aside0.mk (show Kd.R (Kd.int .i64) 3 w10 w.heap.size (fun k_ => (lo167 ≤ k_ ∧ k_ < hi168) ∧ some k_ ≠ (.slice A23 x42.length c24 : Value).ownBlock) (.slice A17 x41.length c18) x41 from Kd.R_below (by (with_reducible repeat (first | apply Kd.R_drewN | apply Kd.R_drew)); exact F20.out) hb)
  replace HC21 := Aside0.mk (show Kd.C (Kd.int .i64) w10 A17 x41.length x41 from Kd.C_below (by (with_reducible repeat (first | apply Kd.C_drewN | apply Kd.C_drew)); exact HC21.out) hb)
  replace F26 := Aside0.mk (show Kd.R (Kd.int .i64) 3 w10 w.heap.size (fun k_ => (lo167 ≤ k_ ∧ k_ < hi168) ∧ some k_ ≠ (.slice A17 x41.length c18 : Value).ownBlock) (.slice A23 x42.length c24) x42 from Kd.R_below (by (with_reducible repeat (first | apply Kd.R_drewN | apply Kd.R_drew)); exact F26.out) hb)
  replace HC27 := Aside0.mk (show Kd.C (Kd.int .i64) w10 A23 x42.length x42 from Kd.C_below (by (with_reducible repeat (first | apply Kd.C_drewN | apply Kd.C_drew)); exact HC27.out) hb)
  replace F32 := Aside0.mk (show Kd.R k39 39 w10 w.heap.size (fun k_ => (lo167 ≤ k_ ∧ k_ < hi168) ∧ some k_ ≠ (.slice A35 x44.length c36 : Value).ownBlock) (.slice A29 x43.length c30) x43 from Kd.R_below (by (with_reducible repeat (first | apply Kd.R_drewN | apply Kd.R_drew)); exact F32.out) hb)
  replace HC33 := Aside0.mk (show Kd.C k39 w10 A29 x43.length x43 from Kd.C_below (by (with_reducible repeat (first | apply Kd.C_drewN | apply Kd.C_drew)); exact HC33.out) hb)
  replace F38 := Aside0.mk (show Kd.R k39 39 w10 w.heap.size (fun k_ => (lo167 ≤ k_ ∧ k_ < hi168) ∧ some k_ ≠ (.slice A29 x43.length c30 : Value).ownBlock) (.slice A35 x44.length c36) x44 from Kd.R_below (by (with_reducible repeat (first | apply Kd.R_drewN | apply Kd.R_drew)); exact F38.out) hb)
  replace HC39 := Aside0.mk (show Kd.C k39 w10 A35 x44.length x44 from Kd.C_below (by (with_reducible repeat (first | apply Kd.C_drewN | apply Kd.C_drew)); exact HC39.out) hb)
  replace F50 := Aside0.mk (show Kd.R (Kd.int .i64) 3 w10 w.heap.size (fun k_ => (lo173 ≤ k_ ∧ k_ < hi174) ∧ True) (.slice A47 x8.length c48) x8 from Kd.R_below (by (with_reducible repeat (first | apply Kd.R_drewN | apply Kd.R_drew)); exact F50.out) hb)
  replace HC51 := Aside0.mk (show Kd.C (Kd.int .i64) w10 A47 x8.length x8 from Kd.C_below (by (with_reducible repeat (first | apply Kd.C_drewN | apply Kd.C_drew)); exact HC51.out) hb)
  replace F56 := Aside0.mk (show Kd.R (Kd.int .i64) 3 w10 w.heap.size (fun k_ => (lo176 ≤ k_ ∧ k_ < hi177) ∧ True) (.slice A53 x16.length c54) x16 from Kd.R_below (by (with_reducible repeat (first | apply Kd.R_drewN | apply Kd.R_drew)); exact F56.out) hb)
  replace HC57 := Aside0.mk (show Kd.C (Kd.int .i64) w10 A53 x16.length x16 from Kd.C_below (by (with_reducible repeat (first | apply Kd.C_drewN | apply Kd.C_drew)); exact HC57.out) hb)
  replace F62 := Aside0.mk (show Kd.R (Kd.int .i64) 3 w10 w.heap.size (fun k_ => (lo179 ≤ k_ ∧ k_ < hi180) ∧ some k_ ≠ (.slice A65 x42.length c66 : Value).ownBlock) (.slice A59 x41.length c60) x41 from Kd.R_below (by (with_reducible repeat (first | apply Kd.R_drewN | apply Kd.R_drew)); exact F62.out) hb)
  replace HC63 := Aside0.mk (show Kd.C (Kd.int .i64) w10 A59 x41.length x41 from Kd.C_below (by (with_reducible repeat (first | apply Kd.C_drewN | apply Kd.C_drew)); exact HC63.out) hb)
  replace F68 := Aside0.mk (show Kd.R (Kd.int .i64) 3 w10 w.heap.size (fun k_ => (lo179 ≤ k_ ∧ k_ < hi180) ∧ some k_ ≠ (.slice A59 x41.length c60 : Value).ownBlock) (.slice A65 x42.length c66) x42 from Kd.R_below (by (with_reducible repeat (first | apply Kd.R_drewN | apply Kd.R_drew)); exact F68.out) hb)
  replace HC69 := Aside0.mk (show Kd.C (Kd.int .i64) w10 A65 x42.length x42 from Kd.C_below (by (with_reducible repeat (first | apply Kd.C_drewN | apply Kd.C_drew)); exact HC69.out) hb)
  replace F74 := Aside0.mk (show Kd.R k39 39 w10 w.heap.size (fun k_ => (lo179 ≤ k_ ∧ k_ < hi180) ∧ some k_ ≠ (.slice A77 x44.length c78 : Value).ownBlock) (.slice A71 x43.length c72) x43 from Kd.R_below (by (with_reducible repeat (first | apply Kd.R_drewN | apply Kd.R_drew)); exact F74.out) hb)
  replace HC75 := Aside0.mk (show Kd.C k39 w10 A71 x43.length x43 from Kd.C_below (by (with_reducible repeat (first | apply Kd.C_drewN | apply Kd.C_drew)); exact HC75.out) hb)
  replace F80 := Aside0.mk (show Kd.R k39 39 w10 w.heap.size (fun k_ => (lo179 ≤ k_ ∧ k_ < hi180) ∧ some k_ ≠ (.slice A71 x43.length c72 : Value).ownBlock) (.slice A77 x44.length c78) x44 from Kd.R_below (by (with_reducible repeat (first | apply Kd.R_drewN | apply Kd.R_drew)); exact F80.out) hb)
  replace HC81 := Aside0.mk (show Kd.C k39 w10 A77 x44.length x44 from Kd.C_below (by (with_reducible repeat (first | apply Kd.C_drewN | apply Kd.C_drew)); exact HC81.out) hb)
  replace BK5 := Aside0.mk (show w10.heap[gb5]? = some (.cells #[.slice A17 x41.length c18, .slice A23 x42.length c24, .slice A29 x43.length c30, .slice A35 x44.length c36, .int .i64 x45] 55 (0, 0)) from blk_below (by (with_reducible repeat (first | refine blk_drewN ?_ _ | refine blk_drew ?_)); exact BK5.out) hb)
  clear k5_0 k5_1 k5_2 k5_3 k5_4
  have k5_0 : w10.cell? ⟨gb5, 0, none⟩ = some (.slice A17 x41.length c18) := (blk_cell BK5.out 0).trans rfl
  have k5_1 : w10.cell? ⟨gb5, 1, none⟩ = some (.slice A23 x42.length c24) := (blk_cell BK5.out 1).trans rfl
  have k5_2 : w10.cell? ⟨gb5, 2, none⟩ = some (.slice A29 x43.length c30) := (blk_cell BK5.out 2).trans rfl
  have k5_3 : w10.cell? ⟨gb5, 3, none⟩ = some (.slice A35 x44.length c36) := (blk_cell BK5.out 3).trans rfl
  have k5_4 : w10.cell? ⟨gb5, 4, none⟩ = some (.int .i64 x45) := (blk_cell BK5.out 4).trans rfl
  replace BK9 := Aside0.mk (show w10.heap[gb9]? = some (.cells #[.slice A59 x41.length c60, .slice A65 x42.length c66, .slice A71 x43.length c72, .slice A77 x44.length c78, .int .i64 x45] 55 (0, 0)) from blk_below (by (with_reducible repeat (first | refine blk_drewN ?_ _ | refine blk_drew ?_)); exact BK9.out) hb)
  clear k9_0 k9_1 k9_2 k9_3 k9_4
  have k9_0 : w10.cell? ⟨gb9, 0, none⟩ = some (.slice A59 x41.length c60) := (blk_cell BK9.out 0).trans rfl
  have k9_1 : w10.cell? ⟨gb9, 1, none⟩ = some (.slice A65 x42.length c66) := (blk_cell BK9.out 1).trans rfl
  have k9_2 : w10.cell? ⟨gb9, 2, none⟩ = some (.slice A71 x43.length c72) := (blk_cell BK9.out 2).trans rfl
  have k9_3 : w10.cell? ⟨gb9, 3, none⟩ = some (.slice A77 x44.length c78) := (blk_cell BK9.out 3).trans rfl
  have k9_4 : w10.cell? ⟨gb9, 4, none⟩ = some (.int .i64 x45) := (blk_cell BK9.out 4).trans rfl
  obtain ⟨lo185, hi186, ho, hg⟩ := fresh_pts (N := hi183) hb (by exact HN.out)
  have O187 := Aside0.mk (show hi183 ≤ lo185 ∧ lo185 ≤ hi186 from ⟨ho.1, ho.2.1⟩)
  have hF87b := R_in hF87 hg (B := w.heap.size) (by have := O163.out; have := O166.out; have := O169.out; have := O172.out; have := O175.out; have := O178.out; have := O181.out; have := O184.out; have := O187.out; omega)
  obtain ⟨A84, c85, rfl, hle, hC⟩ := Kd.R_reads hF87b
  have HC88 := Aside0.mk hC
  have HL89 := Aside0.mk hle
  clear hle hC
  have F87 := Aside0.mk (show Kd.R (Kd.int .i64) 3 w10 w.heap.size (fun k_ => (lo185 ≤ k_ ∧ k_ < hi186) ∧ True) (.slice A84 x8.length c85) x8 from hF87b)
  clear hF87 hF87b
  replace HN := Aside0.mk (show hi186 ≤ w10.heap.size from ho.2.2)
  clear ho hg
  replace HB := HB2
  clear HB2 hb
  go_wp2_with fail
  go_at_call 18
  refine (laws_eqIntS.calls k A47 c48 x8 A84 c85 x8 true _ (by (with_reducible repeat (first | apply Kd.C_drewN | apply Kd.C_drew)); exact HC51.out) HL52.out (by (with_reducible repeat (first | apply Kd.C_drewN | apply Kd.C_drew)); exact HC88.out) HL89.out H153.out).mono ?_
  rintro e w_188 ⟨rfl, ⟨nd189, rfl⟩⟩
  clear F87 HC88
  go_wp2_with fail
  go_at_call 16
  refine (laws_toIntS.calls k A1 c1 l1 x16 _ (Kd.C_below HR1.out (by repeat (first | exact HB.out | apply pw_below_drewN | apply below_drew1))) HL1.out H149.out).mono ?_
  rintro e w11 ⟨v93, rfl, hF94, hb⟩
  have HB2 := Aside0.mk (below_next (N := hi186) (by repeat (first | exact HB.out | apply pw_below_drewN | apply below_drew1)) (by exact HN.out) (by have := O163.out; have := O166.out; have := O169.out; have := O172.out; have := O175.out; have := O178.out; have := O181.out; have := O184.out; have := O187.out; omega) hb)
  replace F20 := Aside0.mk (show Kd.R (Kd.int .i64) 3 w11 w.heap.size (fun k_ => (lo167 ≤ k_ ∧ k_ < hi168) ∧ some k_ ≠ (.slice A23 x42.length c24 : Value).ownBlock) (.slice A17 x41.length c18) x41 from Kd.R_below (by (with_reducible repeat (first | apply Kd.R_drewN | apply Kd.R_drew)); exact F20.out) hb)
  replace HC21 := Aside0.mk (show Kd.C (Kd.int .i64) w11 A17 x41.length x41 from Kd.C_below (by (with_reducible repeat (first | apply Kd.C_drewN | apply Kd.C_drew)); exact HC21.out) hb)
  replace F26 := Aside0.mk (show Kd.R (Kd.int .i64) 3 w11 w.heap.size (fun k_ => (lo167 ≤ k_ ∧ k_ < hi168) ∧ some k_ ≠ (.slice A17 x41.length c18 : Value).ownBlock) (.slice A23 x42.length c24) x42 from Kd.R_below (by (with_reducible repeat (first | apply Kd.R_drewN | apply Kd.R_drew)); exact F26.out) hb)
  replace HC27 := Aside0.mk (show Kd.C (Kd.int .i64) w11 A23 x42.length x42 from Kd.C_below (by (with_reducible repeat (first | apply Kd.C_drewN | apply Kd.C_drew)); exact HC27.out) hb)
  replace F32 := Aside0.mk (show Kd.R k39 39 w11 w.heap.size (fun k_ => (lo167 ≤ k_ ∧ k_ < hi168) ∧ some k_ ≠ (.slice A35 x44.length c36 : Value).ownBlock) (.slice A29 x43.length c30) x43 from Kd.R_below (by (with_reducible repeat (first | apply Kd.R_drewN | apply Kd.R_drew)); exact F32.out) hb)
  replace HC33 := Aside0.mk (show Kd.C k39 w11 A29 x43.length x43 from Kd.C_below (by (with_reducible repeat (first | apply Kd.C_drewN | apply Kd.C_drew)); exact HC33.out) hb)
  replace F38 := Aside0.mk (show Kd.R k39 39 w11 w.heap.size (fun k_ => (lo167 ≤ k_ ∧ k_ < hi168) ∧ some k_ ≠ (.slice A29 x43.length c30 : Value).ownBlock) (.slice A35 x44.length c36) x44 from Kd.R_below (by (with_reducible repeat (first | apply Kd.R_drewN | apply Kd.R_drew)); exact F38.out) hb)
  replace HC39 := Aside0.mk (show Kd.C k39 w11 A35 x44.length x44 from Kd.C_below (by (with_reducible repeat (first | apply Kd.C_drewN | apply Kd.C_drew)); exact HC39.out) hb)
  replace F50 := Aside0.mk (show Kd.R (Kd.int .i64) 3 w11 w.heap.size (fun k_ => (lo173 ≤ k_ ∧ k_ < hi174) ∧ True) (.slice A47 x8.length c48) x8 from Kd.R_below (by (with_reducible repeat (first | apply Kd.R_drewN | apply Kd.R_drew)); exact F50.out) hb)
  replace HC51 := Aside0.mk (show Kd.C (Kd.int .i64) w11 A47 x8.length x8 from Kd.C_below (by (with_reducible repeat (first | apply Kd.C_drewN | apply Kd.C_drew)); exact HC51.out) hb)
  replace F56 := Aside0.mk (show Kd.R (Kd.int .i64) 3 w11 w.heap.size (fun k_ => (lo176 ≤ k_ ∧ k_ < hi177) ∧ True) (.slice A53 x16.length c54) x16 from Kd.R_below (by (with_reducible repeat (first | apply Kd.R_drewN | apply Kd.R_drew)); exact F56.out) hb)
  replace HC57 := Aside0.mk (show Kd.C (Kd.int .i64) w11 A53 x16.length x16 from Kd.C_below (by (with_reducible repeat (first | apply Kd.C_drewN | apply Kd.C_drew)); exact HC57.out) hb)
  replace F62 := Aside0.mk (show Kd.R (Kd.int .i64) 3 w11 w.heap.size (fun k_ => (lo179 ≤ k_ ∧ k_ < hi180) ∧ some k_ ≠ (.slice A65 x42.length c66 : Value).ownBlock) (.slice A59 x41.length c60) x41 from Kd.R_below (by (with_reducible repeat (first | apply Kd.R_drewN | apply Kd.R_drew)); exact F62.out) hb)
  replace HC63 := Aside0.mk (show Kd.C (Kd.int .i64) w11 A59 x41.length x41 from Kd.C_below (by (with_reducible repeat (first | apply Kd.C_drewN | apply Kd.C_drew)); exact HC63.out) hb)
  replace F68 := Aside0.mk (show Kd.R (Kd.int .i64) 3 w11 w.heap.size (fun k_ => (lo179 ≤ k_ ∧ k_ < hi180) ∧ some k_ ≠ (.slice A59 x41.length c60 : Value).ownBlock) (.slice A65 x42.length c66) x42 from Kd.R_below (by (with_reducible repeat (first | apply Kd.R_drewN | apply Kd.R_drew)); exact F68.out) hb)
  replace HC69 := Aside0.mk (show Kd.C (Kd.int .i64) w11 A65 x42.length x42 from Kd.C_below (by (with_reducible repeat (first | apply Kd.C_drewN | apply Kd.C_drew)); exact HC69.out) hb)
  replace F74 := Aside0.mk (show Kd.R k39 39 w11 w.heap.size (fun k_ => (lo179 ≤ k_ ∧ k_ < hi180) ∧ some k_ ≠ (.slice A77 x44.length c78 : Value).ownBlock) (.slice A71 x43.length c72) x43 from Kd.R_below (by (with_reducible repeat (first | apply Kd.R_drewN | apply Kd.R_drew)); exact F74.out) hb)
  replace HC75 := Aside0.mk (show Kd.C k39 w11 A71 x43.length x43 from Kd.C_below (by (with_reducible repeat (first | apply Kd.C_drewN | apply Kd.C_drew)); exact HC75.out) hb)
  replace F80 := Aside0.mk (show Kd.R k39 39 w11 w.heap.size (fun k_ => (lo179 ≤ k_ ∧ k_ < hi180) ∧ some k_ ≠ (.slice A71 x43.length c72 : Value).ownBlock) (.slice A77 x44.length c78) x44 from Kd.R_below (by (with_reducible repeat (first | apply Kd.R_drewN | apply Kd.R_drew)); exact F80.out) hb)
  replace HC81 := Aside0.mk (show Kd.C k39 w11 A77 x44.length x44 from Kd.C_below (by (with_reducible repeat (first | apply Kd.C_drewN | apply Kd.C_drew)); exact HC81.out) hb)
  replace BK5 := Aside0.mk (show w11.heap[gb5]? = some (.cells #[.slice A17 x41.length c18, .slice A23 x42.length c24, .slice A29 x43.length c30, .slice A35 x44.length c36, .int .i64 x45] 55 (0, 0)) from blk_below (by (with_reducible repeat (first | refine blk_drewN ?_ _ | refine blk_drew ?_)); exact BK5.out) hb)
  clear k5_0 k5_1 k5_2 k5_3 k5_4
  have k5_0 : w11.cell? ⟨gb5, 0, none⟩ = some (.slice A17 x41.length c18) := (blk_cell BK5.out 0).trans rfl
  have k5_1 : w11.cell? ⟨gb5, 1, none⟩ = some (.slice A23 x42.length c24) := (blk_cell BK5.out 1).trans rfl
  have k5_2 : w11.cell? ⟨gb5, 2, none⟩ = some (.slice A29 x43.length c30) := (blk_cell BK5.out 2).trans rfl
  have k5_3 : w11.cell? ⟨gb5, 3, none⟩ = some (.slice A35 x44.length c36) := (blk_cell BK5.out 3).trans rfl
  have k5_4 : w11.cell? ⟨gb5, 4, none⟩ = some (.int .i64 x45) := (blk_cell BK5.out 4).trans rfl
  replace BK9 := Aside0.mk (show w11.heap[gb9]? = some (.cells #[.slice A59 x41.length c60, .slice A65 x42.length c66, .slice A71 x43.length c72, .slice A77 x44.length c78, .int .i64 x45] 55 (0, 0)) from blk_below (by (with_reducible repeat (first | refine blk_drewN ?_ _ | refine blk_drew ?_)); exact BK9.out) hb)
  clear k9_0 k9_1 k9_2 k9_3 k9_4
  have k9_0 : w11.cell? ⟨gb9, 0, none⟩ = some (.slice A59 x41.length c60) := (blk_cell BK9.out 0).trans rfl
  have k9_1 : w11.cell? ⟨gb9, 1, none⟩ = some (.slice A65 x42.length c66) := (blk_cell BK9.out 1).trans rfl
  have k9_2 : w11.cell? ⟨gb9, 2, none⟩ = some (.slice A71 x43.length c72) := (blk_cell BK9.out 2).trans rfl
  have k9_3 : w11.cell? ⟨gb9, 3, none⟩ = some (.slice A77 x44.length c78) := (blk_cell BK9.out 3).trans rfl
  have k9_4 : w11.cell? ⟨gb9, 4, none⟩ = some (.int .i64 x45) := (blk_cell BK9.out 4).trans rfl
  obtain ⟨lo190, hi191, ho, hg⟩ := fresh_pts (N := hi186) hb (by exact HN.out)
  have O192 := Aside0.mk (show hi186 ≤ lo190 ∧ lo190 ≤ hi191 from ⟨ho.1, ho.2.1⟩)
  have hF94b := R_in hF94 hg (B := w.heap.size) (by have := O163.out; have := O166.out; have := O169.out; have := O172.out; have := O175.out; have := O178.out; have := O181.out; have := O184.out; have := O187.out; have := O192.out; omega)
  obtain ⟨A91, c92, rfl, hle, hC⟩ := Kd.R_reads hF94b
  have HC95 := Aside0.mk hC
  have HL96 := Aside0.mk hle
  clear hle hC
  have F94 := Aside0.mk (show Kd.R (Kd.int .i64) 3 w11 w.heap.size (fun k_ => (lo190 ≤ k_ ∧ k_ < hi191) ∧ True) (.slice A91 x16.length c92) x16 from hF94b)
  clear hF94 hF94b
  replace HN := Aside0.mk (show hi191 ≤ w11.heap.size from ho.2.2)
  clear ho hg
  replace HB := HB2
  clear HB2 hb
  go_wp2_with fail
  go_at_call 18
  refine (laws_eqIntS.calls k A53 c54 x16 A91 c92 x16 true _ (by (with_reducible repeat (first | apply Kd.C_drewN | apply Kd.C_drew)); exact HC57.out) HL58.out (by (with_reducible repeat (first | apply Kd.C_drewN | apply Kd.C_drew)); exact HC95.out) HL96.out H154.out).mono ?_
  rintro e w_193 ⟨rfl, ⟨nd194, rfl⟩⟩
  clear F94 HC95
  go_wp2_with fail
  go_at_call 29
  refine (laws_markIntS.calls k (fun k_ => some k_ = (.slice A47 x8.length c48 : Value).ownBlock) (.slice A47 x8.length c48) x8 1 t97 x98 w _ (by repeat (first | exact HB.out | apply pw_below_drewN | apply below_drew1)) (Kd.R_tight rfl (by (with_reducible repeat (first | apply Kd.R_drewN | apply Kd.R_drew)); exact F50.out)) H155.out).mono ?_
  rintro e w12 ⟨rfl, hF0, hB2, hK⟩
  replace F20 := Aside0.mk (show Kd.R (Kd.int .i64) 3 w12 w.heap.size (fun k_ => (lo167 ≤ k_ ∧ k_ < hi168) ∧ some k_ ≠ (.slice A23 x42.length c24 : Value).ownBlock) (.slice A17 x41.length c18) x41 from Kd.R_kept (S := (fun k_ => some k_ = (.slice A47 x8.length c48 : Value).ownBlock)) (by (with_reducible repeat (first | apply Kd.R_drewN | apply Kd.R_drew)); exact F20.out) hK (fun k_ h1_ h2_ => (fun e_ => by have h3_ := h1_.1; have h4_ := (F50.out.1 k_ e_.symm).1; have := O163.out; have := O166.out; have := O169.out; have := O172.out; have := O175.out; have := O178.out; have := O181.out; have := O184.out; have := O187.out; have := O192.out; omega) h2_))
  replace HC21 := Aside0.mk (show Kd.C (Kd.int .i64) w12 A17 x41.length x41 from (Kd.R_reads' F20.out).2.2)
  replace F26 := Aside0.mk (show Kd.R (Kd.int .i64) 3 w12 w.heap.size (fun k_ => (lo167 ≤ k_ ∧ k_ < hi168) ∧ some k_ ≠ (.slice A17 x41.length c18 : Value).ownBlock) (.slice A23 x42.length c24) x42 from Kd.R_kept (S := (fun k_ => some k_ = (.slice A47 x8.length c48 : Value).ownBlock)) (by (with_reducible repeat (first | apply Kd.R_drewN | apply Kd.R_drew)); exact F26.out) hK (fun k_ h1_ h2_ => (fun e_ => by have h3_ := h1_.1; have h4_ := (F50.out.1 k_ e_.symm).1; have := O163.out; have := O166.out; have := O169.out; have := O172.out; have := O175.out; have := O178.out; have := O181.out; have := O184.out; have := O187.out; have := O192.out; omega) h2_))
  replace HC27 := Aside0.mk (show Kd.C (Kd.int .i64) w12 A23 x42.length x42 from (Kd.R_reads' F26.out).2.2)
  replace F32 := Aside0.mk (show Kd.R k39 39 w12 w.heap.size (fun k_ => (lo167 ≤ k_ ∧ k_ < hi168) ∧ some k_ ≠ (.slice A35 x44.length c36 : Value).ownBlock) (.slice A29 x43.length c30) x43 from Kd.R_kept (S := (fun k_ => some k_ = (.slice A47 x8.length c48 : Value).ownBlock)) (by (with_reducible repeat (first | apply Kd.R_drewN | apply Kd.R_drew)); exact F32.out) hK (fun k_ h1_ h2_ => (fun e_ => by have h3_ := h1_.1; have h4_ := (F50.out.1 k_ e_.symm).1; have := O163.out; have := O166.out; have := O169.out; have := O172.out; have := O175.out; have := O178.out; have := O181.out; have := O184.out; have := O187.out; have := O192.out; omega) h2_))
  replace HC33 := Aside0.mk (show Kd.C k39 w12 A29 x43.length x43 from (Kd.R_reads' F32.out).2.2)
  replace F38 := Aside0.mk (show Kd.R k39 39 w12 w.heap.size (fun k_ => (lo167 ≤ k_ ∧ k_ < hi168) ∧ some k_ ≠ (.slice A29 x43.length c30 : Value).ownBlock) (.slice A35 x44.length c36) x44 from Kd.R_kept (S := (fun k_ => some k_ = (.slice A47 x8.length c48 : Value).ownBlock)) (by (with_reducible repeat (first | apply Kd.R_drewN | apply Kd.R_drew)); exact F38.out) hK (fun k_ h1_ h2_ => (fun e_ => by have h3_ := h1_.1; have h4_ := (F50.out.1 k_ e_.symm).1; have := O163.out; have := O166.out; have := O169.out; have := O172.out; have := O175.out; have := O178.out; have := O181.out; have := O184.out; have := O187.out; have := O192.out; omega) h2_))
  replace HC39 := Aside0.mk (show Kd.C k39 w12 A35 x44.length x44 from (Kd.R_reads' F38.out).2.2)
  replace F56 := Aside0.mk (show Kd.R (Kd.int .i64) 3 w12 w.heap.size (fun k_ => (lo176 ≤ k_ ∧ k_ < hi177) ∧ True) (.slice A53 x16.length c54) x16 from Kd.R_kept (S := (fun k_ => some k_ = (.slice A47 x8.length c48 : Value).ownBlock)) (by (with_reducible repeat (first | apply Kd.R_drewN | apply Kd.R_drew)); exact F56.out) hK (fun k_ h1_ h2_ => (fun e_ => by have h3_ := h1_.1; have h4_ := (F50.out.1 k_ e_.symm).1; have := O163.out; have := O166.out; have := O169.out; have := O172.out; have := O175.out; have := O178.out; have := O181.out; have := O184.out; have := O187.out; have := O192.out; omega) h2_))
  replace HC57 := Aside0.mk (show Kd.C (Kd.int .i64) w12 A53 x16.length x16 from (Kd.R_reads' F56.out).2.2)
  replace F62 := Aside0.mk (show Kd.R (Kd.int .i64) 3 w12 w.heap.size (fun k_ => (lo179 ≤ k_ ∧ k_ < hi180) ∧ some k_ ≠ (.slice A65 x42.length c66 : Value).ownBlock) (.slice A59 x41.length c60) x41 from Kd.R_kept (S := (fun k_ => some k_ = (.slice A47 x8.length c48 : Value).ownBlock)) (by (with_reducible repeat (first | apply Kd.R_drewN | apply Kd.R_drew)); exact F62.out) hK (fun k_ h1_ h2_ => (fun e_ => by have h3_ := h1_.1; have h4_ := (F50.out.1 k_ e_.symm).1; have := O163.out; have := O166.out; have := O169.out; have := O172.out; have := O175.out; have := O178.out; have := O181.out; have := O184.out; have := O187.out; have := O192.out; omega) h2_))
  replace HC63 := Aside0.mk (show Kd.C (Kd.int .i64) w12 A59 x41.length x41 from (Kd.R_reads' F62.out).2.2)
  replace F68 := Aside0.mk (show Kd.R (Kd.int .i64) 3 w12 w.heap.size (fun k_ => (lo179 ≤ k_ ∧ k_ < hi180) ∧ some k_ ≠ (.slice A59 x41.length c60 : Value).ownBlock) (.slice A65 x42.length c66) x42 from Kd.R_kept (S := (fun k_ => some k_ = (.slice A47 x8.length c48 : Value).ownBlock)) (by (with_reducible repeat (first | apply Kd.R_drewN | apply Kd.R_drew)); exact F68.out) hK (fun k_ h1_ h2_ => (fun e_ => by have h3_ := h1_.1; have h4_ := (F50.out.1 k_ e_.symm).1; have := O163.out; have := O166.out; have := O169.out; have := O172.out; have := O175.out; have := O178.out; have := O181.out; have := O184.out; have := O187.out; have := O192.out; omega) h2_))
  replace HC69 := Aside0.mk (show Kd.C (Kd.int .i64) w12 A65 x42.length x42 from (Kd.R_reads' F68.out).2.2)
  replace F74 := Aside0.mk (show Kd.R k39 39 w12 w.heap.size (fun k_ => (lo179 ≤ k_ ∧ k_ < hi180) ∧ some k_ ≠ (.slice A77 x44.length c78 : Value).ownBlock) (.slice A71 x43.length c72) x43 from Kd.R_kept (S := (fun k_ => some k_ = (.slice A47 x8.length c48 : Value).ownBlock)) (by (with_reducible repeat (first | apply Kd.R_drewN | apply Kd.R_drew)); exact F74.out) hK (fun k_ h1_ h2_ => (fun e_ => by have h3_ := h1_.1; have h4_ := (F50.out.1 k_ e_.symm).1; have := O163.out; have := O166.out; have := O169.out; have := O172.out; have := O175.out; have := O178.out; have := O181.out; have := O184.out; have := O187.out; have := O192.out; omega) h2_))
  replace HC75 := Aside0.mk (show Kd.C k39 w12 A71 x43.length x43 from (Kd.R_reads' F74.out).2.2)
  replace F80 := Aside0.mk (show Kd.R k39 39 w12 w.heap.size (fun k_ => (lo179 ≤ k_ ∧ k_ < hi180) ∧ some k_ ≠ (.slice A71 x43.length c72 : Value).ownBlock) (.slice A77 x44.length c78) x44 from Kd.R_kept (S := (fun k_ => some k_ = (.slice A47 x8.length c48 : Value).ownBlock)) (by (with_reducible repeat (first | apply Kd.R_drewN | apply Kd.R_drew)); exact F80.out) hK (fun k_ h1_ h2_ => (fun e_ => by have h3_ := h1_.1; have h4_ := (F50.out.1 k_ e_.symm).1; have := O163.out; have := O166.out; have := O169.out; have := O172.out; have := O175.out; have := O178.out; have := O181.out; have := O184.out; have := O187.out; have := O192.out; omega) h2_))
  replace HC81 := Aside0.mk (show Kd.C k39 w12 A77 x44.length x44 from (Kd.R_reads' F80.out).2.2)
  replace BK5 := Aside0.mk (show w12.heap[gb5]? = some (.cells #[.slice A17 x41.length c18, .slice A23 x42.length c24, .slice A29 x43.length c30, .slice A35 x44.length c36, .int .i64 x45] 55 (0, 0)) from blk_kept (by (with_reducible repeat (first | refine blk_drewN ?_ _ | refine blk_drew ?_)); exact BK5.out) hK (fun h_ => (fun e_ => by have h4_ := (F50.out.1 gb5 e_.symm).1; have := EG5.out; have := O163.out; have := O166.out; have := O169.out; have := O172.out; have := O175.out; have := O178.out; have := O181.out; have := O184.out; have := O187.out; have := O192.out; omega) h_))
  clear k5_0 k5_1 k5_2 k5_3 k5_4
  have k5_0 : w12.cell? ⟨gb5, 0, none⟩ = some (.slice A17 x41.length c18) := (blk_cell BK5.out 0).trans rfl
  have k5_1 : w12.cell? ⟨gb5, 1, none⟩ = some (.slice A23 x42.length c24) := (blk_cell BK5.out 1).trans rfl
  have k5_2 : w12.cell? ⟨gb5, 2, none⟩ = some (.slice A29 x43.length c30) := (blk_cell BK5.out 2).trans rfl
  have k5_3 : w12.cell? ⟨gb5, 3, none⟩ = some (.slice A35 x44.length c36) := (blk_cell BK5.out 3).trans rfl
  have k5_4 : w12.cell? ⟨gb5, 4, none⟩ = some (.int .i64 x45) := (blk_cell BK5.out 4).trans rfl
  replace BK9 := Aside0.mk (show w12.heap[gb9]? = some (.cells #[.slice A59 x41.length c60, .slice A65 x42.length c66, .slice A71 x43.length c72, .slice A77 x44.length c78, .int .i64 x45] 55 (0, 0)) from blk_kept (by (with_reducible repeat (first | refine blk_drewN ?_ _ | refine blk_drew ?_)); exact BK9.out) hK (fun h_ => (fun e_ => by have h4_ := (F50.out.1 gb9 e_.symm).1; have := EG9.out; have := O163.out; have := O166.out; have := O169.out; have := O172.out; have := O175.out; have := O178.out; have := O181.out; have := O184.out; have := O187.out; have := O192.out; omega) h_))
  clear k9_0 k9_1 k9_2 k9_3 k9_4
  have k9_0 : w12.cell? ⟨gb9, 0, none⟩ = some (.slice A59 x41.length c60) := (blk_cell BK9.out 0).trans rfl
  have k9_1 : w12.cell? ⟨gb9, 1, none⟩ = some (.slice A65 x42.length c66) := (blk_cell BK9.out 1).trans rfl
  have k9_2 : w12.cell? ⟨gb9, 2, none⟩ = some (.slice A71 x43.length c72) := (blk_cell BK9.out 2).trans rfl
  have k9_3 : w12.cell? ⟨gb9, 3, none⟩ = some (.slice A77 x44.length c78) := (blk_cell BK9.out 3).trans rfl
  have k9_4 : w12.cell? ⟨gb9, 4, none⟩ = some (.int .i64 x45) := (blk_cell BK9.out 4).trans rfl
  clear F50 HC51
  replace HN := Aside0.mk (show hi191 ≤ w12.heap.size from Nat.le_trans HN.out hK.1)
  replace HB := Aside0.mk hB2
  clear hB2 hK hF0
  go_wp2_with fail
  go_at_call 29
  refine (laws_markIntS.calls k (fun k_ => some k_ = (.slice A53 x16.length c54 : Value).ownBlock) (.slice A53 x16.length c54) x16 t97 t99 x100 w _ (by repeat (first | exact HB.out | apply pw_below_drewN | apply below_drew1)) (Kd.R_tight rfl (by (with_reducible repeat (first | apply Kd.R_drewN | apply Kd.R_drew)); exact F56.out)) H156.out).mono ?_
  rintro e w13 ⟨rfl, hF0, hB2, hK⟩
  replace F20 := Aside0.mk (show Kd.R (Kd.int .i64) 3 w13 w.heap.size (fun k_ => (lo167 ≤ k_ ∧ k_ < hi168) ∧ some k_ ≠ (.slice A23 x42.length c24 : Value).ownBlock) (.slice A17 x41.length c18) x41 from Kd.R_kept (S := (fun k_ => some k_ = (.slice A53 x16.length c54 : Value).ownBlock)) (by (with_reducible repeat (first | apply Kd.R_drewN | apply Kd.R_drew)); exact F20.out) hK (fun k_ h1_ h2_ => (fun e_ => by have h3_ := h1_.1; have h4_ := (F56.out.1 k_ e_.symm).1; have := O163.out; have := O166.out; have := O169.out; have := O172.out; have := O175.out; have := O178.out; have := O181.out; have := O184.out; have := O187.out; have := O192.out; omega) h2_))
  replace HC21 := Aside0.mk (show Kd.C (Kd.int .i64) w13 A17 x41.length x41 from (Kd.R_reads' F20.out).2.2)
  replace F26 := Aside0.mk (show Kd.R (Kd.int .i64) 3 w13 w.heap.size (fun k_ => (lo167 ≤ k_ ∧ k_ < hi168) ∧ some k_ ≠ (.slice A17 x41.length c18 : Value).ownBlock) (.slice A23 x42.length c24) x42 from Kd.R_kept (S := (fun k_ => some k_ = (.slice A53 x16.length c54 : Value).ownBlock)) (by (with_reducible repeat (first | apply Kd.R_drewN | apply Kd.R_drew)); exact F26.out) hK (fun k_ h1_ h2_ => (fun e_ => by have h3_ := h1_.1; have h4_ := (F56.out.1 k_ e_.symm).1; have := O163.out; have := O166.out; have := O169.out; have := O172.out; have := O175.out; have := O178.out; have := O181.out; have := O184.out; have := O187.out; have := O192.out; omega) h2_))
  replace HC27 := Aside0.mk (show Kd.C (Kd.int .i64) w13 A23 x42.length x42 from (Kd.R_reads' F26.out).2.2)
  replace F32 := Aside0.mk (show Kd.R k39 39 w13 w.heap.size (fun k_ => (lo167 ≤ k_ ∧ k_ < hi168) ∧ some k_ ≠ (.slice A35 x44.length c36 : Value).ownBlock) (.slice A29 x43.length c30) x43 from Kd.R_kept (S := (fun k_ => some k_ = (.slice A53 x16.length c54 : Value).ownBlock)) (by (with_reducible repeat (first | apply Kd.R_drewN | apply Kd.R_drew)); exact F32.out) hK (fun k_ h1_ h2_ => (fun e_ => by have h3_ := h1_.1; have h4_ := (F56.out.1 k_ e_.symm).1; have := O163.out; have := O166.out; have := O169.out; have := O172.out; have := O175.out; have := O178.out; have := O181.out; have := O184.out; have := O187.out; have := O192.out; omega) h2_))
  replace HC33 := Aside0.mk (show Kd.C k39 w13 A29 x43.length x43 from (Kd.R_reads' F32.out).2.2)
  replace F38 := Aside0.mk (show Kd.R k39 39 w13 w.heap.size (fun k_ => (lo167 ≤ k_ ∧ k_ < hi168) ∧ some k_ ≠ (.slice A29 x43.length c30 : Value).ownBlock) (.slice A35 x44.length c36) x44 from Kd.R_kept (S := (fun k_ => some k_ = (.slice A53 x16.length c54 : Value).ownBlock)) (by (with_reducible repeat (first | apply Kd.R_drewN | apply Kd.R_drew)); exact F38.out) hK (fun k_ h1_ h2_ => (fun e_ => by have h3_ := h1_.1; have h4_ := (F56.out.1 k_ e_.symm).1; have := O163.out; have := O166.out; have := O169.out; have := O172.out; have := O175.out; have := O178.out; have := O181.out; have := O184.out; have := O187.out; have := O192.out; omega) h2_))
  replace HC39 := Aside0.mk (show Kd.C k39 w13 A35 x44.length x44 from (Kd.R_reads' F38.out).2.2)
  replace F62 := Aside0.mk (show Kd.R (Kd.int .i64) 3 w13 w.heap.size (fun k_ => (lo179 ≤ k_ ∧ k_ < hi180) ∧ some k_ ≠ (.slice A65 x42.length c66 : Value).ownBlock) (.slice A59 x41.length c60) x41 from Kd.R_kept (S := (fun k_ => some k_ = (.slice A53 x16.length c54 : Value).ownBlock)) (by (with_reducible repeat (first | apply Kd.R_drewN | apply Kd.R_drew)); exact F62.out) hK (fun k_ h1_ h2_ => (fun e_ => by have h3_ := h1_.1; have h4_ := (F56.out.1 k_ e_.symm).1; have := O163.out; have := O166.out; have := O169.out; have := O172.out; have := O175.out; have := O178.out; have := O181.out; have := O184.out; have := O187.out; have := O192.out; omega) h2_))
  replace HC63 := Aside0.mk (show Kd.C (Kd.int .i64) w13 A59 x41.length x41 from (Kd.R_reads' F62.out).2.2)
  replace F68 := Aside0.mk (show Kd.R (Kd.int .i64) 3 w13 w.heap.size (fun k_ => (lo179 ≤ k_ ∧ k_ < hi180) ∧ some k_ ≠ (.slice A59 x41.length c60 : Value).ownBlock) (.slice A65 x42.length c66) x42 from Kd.R_kept (S := (fun k_ => some k_ = (.slice A53 x16.length c54 : Value).ownBlock)) (by (with_reducible repeat (first | apply Kd.R_drewN | apply Kd.R_drew)); exact F68.out) hK (fun k_ h1_ h2_ => (fun e_ => by have h3_ := h1_.1; have h4_ := (F56.out.1 k_ e_.symm).1; have := O163.out; have := O166.out; have := O169.out; have := O172.out; have := O175.out; have := O178.out; have := O181.out; have := O184.out; have := O187.out; have := O192.out; omega) h2_))
  replace HC69 := Aside0.mk (show Kd.C (Kd.int .i64) w13 A65 x42.length x42 from (Kd.R_reads' F68.out).2.2)
  replace F74 := Aside0.mk (show Kd.R k39 39 w13 w.heap.size (fun k_ => (lo179 ≤ k_ ∧ k_ < hi180) ∧ some k_ ≠ (.slice A77 x44.length c78 : Value).ownBlock) (.slice A71 x43.length c72) x43 from Kd.R_kept (S := (fun k_ => some k_ = (.slice A53 x16.length c54 : Value).ownBlock)) (by (with_reducible repeat (first | apply Kd.R_drewN | apply Kd.R_drew)); exact F74.out) hK (fun k_ h1_ h2_ => (fun e_ => by have h3_ := h1_.1; have h4_ := (F56.out.1 k_ e_.symm).1; have := O163.out; have := O166.out; have := O169.out; have := O172.out; have := O175.out; have := O178.out; have := O181.out; have := O184.out; have := O187.out; have := O192.out; omega) h2_))
  replace HC75 := Aside0.mk (show Kd.C k39 w13 A71 x43.length x43 from (Kd.R_reads' F74.out).2.2)
  replace F80 := Aside0.mk (show Kd.R k39 39 w13 w.heap.size (fun k_ => (lo179 ≤ k_ ∧ k_ < hi180) ∧ some k_ ≠ (.slice A71 x43.length c72 : Value).ownBlock) (.slice A77 x44.length c78) x44 from Kd.R_kept (S := (fun k_ => some k_ = (.slice A53 x16.length c54 : Value).ownBlock)) (by (with_reducible repeat (first | apply Kd.R_drewN | apply Kd.R_drew)); exact F80.out) hK (fun k_ h1_ h2_ => (fun e_ => by have h3_ := h1_.1; have h4_ := (F56.out.1 k_ e_.symm).1; have := O163.out; have := O166.out; have := O169.out; have := O172.out; have := O175.out; have := O178.out; have := O181.out; have := O184.out; have := O187.out; have := O192.out; omega) h2_))
  replace HC81 := Aside0.mk (show Kd.C k39 w13 A77 x44.length x44 from (Kd.R_reads' F80.out).2.2)
  replace BK5 := Aside0.mk (show w13.heap[gb5]? = some (.cells #[.slice A17 x41.length c18, .slice A23 x42.length c24, .slice A29 x43.length c30, .slice A35 x44.length c36, .int .i64 x45] 55 (0, 0)) from blk_kept (by (with_reducible repeat (first | refine blk_drewN ?_ _ | refine blk_drew ?_)); exact BK5.out) hK (fun h_ => (fun e_ => by have h4_ := (F56.out.1 gb5 e_.symm).1; have := EG5.out; have := O163.out; have := O166.out; have := O169.out; have := O172.out; have := O175.out; have := O178.out; have := O181.out; have := O184.out; have := O187.out; have := O192.out; omega) h_))
  clear k5_0 k5_1 k5_2 k5_3 k5_4
  have k5_0 : w13.cell? ⟨gb5, 0, none⟩ = some (.slice A17 x41.length c18) := (blk_cell BK5.out 0).trans rfl
  have k5_1 : w13.cell? ⟨gb5, 1, none⟩ = some (.slice A23 x42.length c24) := (blk_cell BK5.out 1).trans rfl
  have k5_2 : w13.cell? ⟨gb5, 2, none⟩ = some (.slice A29 x43.length c30) := (blk_cell BK5.out 2).trans rfl
  have k5_3 : w13.cell? ⟨gb5, 3, none⟩ = some (.slice A35 x44.length c36) := (blk_cell BK5.out 3).trans rfl
  have k5_4 : w13.cell? ⟨gb5, 4, none⟩ = some (.int .i64 x45) := (blk_cell BK5.out 4).trans rfl
  replace BK9 := Aside0.mk (show w13.heap[gb9]? = some (.cells #[.slice A59 x41.length c60, .slice A65 x42.length c66, .slice A71 x43.length c72, .slice A77 x44.length c78, .int .i64 x45] 55 (0, 0)) from blk_kept (by (with_reducible repeat (first | refine blk_drewN ?_ _ | refine blk_drew ?_)); exact BK9.out) hK (fun h_ => (fun e_ => by have h4_ := (F56.out.1 gb9 e_.symm).1; have := EG9.out; have := O163.out; have := O166.out; have := O169.out; have := O172.out; have := O175.out; have := O178.out; have := O181.out; have := O184.out; have := O187.out; have := O192.out; omega) h_))
  clear k9_0 k9_1 k9_2 k9_3 k9_4
  have k9_0 : w13.cell? ⟨gb9, 0, none⟩ = some (.slice A59 x41.length c60) := (blk_cell BK9.out 0).trans rfl
  have k9_1 : w13.cell? ⟨gb9, 1, none⟩ = some (.slice A65 x42.length c66) := (blk_cell BK9.out 1).trans rfl
  have k9_2 : w13.cell? ⟨gb9, 2, none⟩ = some (.slice A71 x43.length c72) := (blk_cell BK9.out 2).trans rfl
  have k9_3 : w13.cell? ⟨gb9, 3, none⟩ = some (.slice A77 x44.length c78) := (blk_cell BK9.out 3).trans rfl
  have k9_4 : w13.cell? ⟨gb9, 4, none⟩ = some (.int .i64 x45) := (blk_cell BK9.out 4).trans rfl
  clear F56 HC57
  replace HN := Aside0.mk (show hi191 ≤ w13.heap.size from Nat.le_trans HN.out hK.1)
  replace HB := Aside0.mk hB2
  clear hB2 hK hF0
  have d197 : decide (t99 < 0) = false := decide_eq_false (by have := H157.out; omega)
  go_wp2_with fail
  go_at_call 43
  refine (laws_eqJob.calls k A59 c60 x41 A65 c66 x42 A71 c72 x43 A77 c78 x44 x45 A17 c18 x41 A23 c24 x42 A29 c30 x43 A35 c36 x44 x45 true _ (by (with_reducible repeat (first | apply Kd.C_drewN | apply Kd.C_drew)); exact HC63.out) HL64.out (by (with_reducible repeat (first | apply Kd.C_drewN | apply Kd.C_drew)); exact HC69.out) HL70.out (by (with_reducible repeat (first | apply Kd.C_drewN | apply Kd.C_drew)); exact HC75.out) HL76.out (by (with_reducible repeat (first | apply Kd.C_drewN | apply Kd.C_drew)); exact HC81.out) HL82.out (by (with_reducible repeat (first | apply Kd.C_drewN | apply Kd.C_drew)); exact HC21.out) HL22.out (by (with_reducible repeat (first | apply Kd.C_drewN | apply Kd.C_drew)); exact HC27.out) HL28.out (by (with_reducible repeat (first | apply Kd.C_drewN | apply Kd.C_drew)); exact HC33.out) HL34.out (by (with_reducible repeat (first | apply Kd.C_drewN | apply Kd.C_drew)); exact HC39.out) HL40.out H152.out).mono ?_
  rintro e w14 ⟨rfl, hb⟩
  have HB2 := Aside0.mk (below_next (N := hi191) (by repeat (first | exact HB.out | apply pw_below_drewN | apply below_drew1)) (by exact HN.out) (by have := O163.out; have := O166.out; have := O169.out; have := O172.out; have := O175.out; have := O178.out; have := O181.out; have := O184.out; have := O187.out; have := O192.out; omega) hb)
  replace F20 := Aside0.mk (show Kd.R (Kd.int .i64) 3 w14 w.heap.size (fun k_ => (lo167 ≤ k_ ∧ k_ < hi168) ∧ some k_ ≠ (.slice A23 x42.length c24 : Value).ownBlock) (.slice A17 x41.length c18) x41 from Kd.R_below (by (with_reducible repeat (first | apply Kd.R_drewN | apply Kd.R_drew)); exact F20.out) hb)
  replace HC21 := Aside0.mk (show Kd.C (Kd.int .i64) w14 A17 x41.length x41 from Kd.C_below (by (with_reducible repeat (first | apply Kd.C_drewN | apply Kd.C_drew)); exact HC21.out) hb)
  replace F26 := Aside0.mk (show Kd.R (Kd.int .i64) 3 w14 w.heap.size (fun k_ => (lo167 ≤ k_ ∧ k_ < hi168) ∧ some k_ ≠ (.slice A17 x41.length c18 : Value).ownBlock) (.slice A23 x42.length c24) x42 from Kd.R_below (by (with_reducible repeat (first | apply Kd.R_drewN | apply Kd.R_drew)); exact F26.out) hb)
  replace HC27 := Aside0.mk (show Kd.C (Kd.int .i64) w14 A23 x42.length x42 from Kd.C_below (by (with_reducible repeat (first | apply Kd.C_drewN | apply Kd.C_drew)); exact HC27.out) hb)
  replace F32 := Aside0.mk (show Kd.R k39 39 w14 w.heap.size (fun k_ => (lo167 ≤ k_ ∧ k_ < hi168) ∧ some k_ ≠ (.slice A35 x44.length c36 : Value).ownBlock) (.slice A29 x43.length c30) x43 from Kd.R_below (by (with_reducible repeat (first | apply Kd.R_drewN | apply Kd.R_drew)); exact F32.out) hb)
  replace HC33 := Aside0.mk (show Kd.C k39 w14 A29 x43.length x43 from Kd.C_below (by (with_reducible repeat (first | apply Kd.C_drewN | apply Kd.C_drew)); exact HC33.out) hb)
  replace F38 := Aside0.mk (show Kd.R k39 39 w14 w.heap.size (fun k_ => (lo167 ≤ k_ ∧ k_ < hi168) ∧ some k_ ≠ (.slice A29 x43.length c30 : Value).ownBlock) (.slice A35 x44.length c36) x44 from Kd.R_below (by (with_reducible repeat (first | apply Kd.R_drewN | apply Kd.R_drew)); exact F38.out) hb)
  replace HC39 := Aside0.mk (show Kd.C k39 w14 A35 x44.length x44 from Kd.C_below (by (with_reducible repeat (first | apply Kd.C_drewN | apply Kd.C_drew)); exact HC39.out) hb)
  replace F62 := Aside0.mk (show Kd.R (Kd.int .i64) 3 w14 w.heap.size (fun k_ => (lo179 ≤ k_ ∧ k_ < hi180) ∧ some k_ ≠ (.slice A65 x42.length c66 : Value).ownBlock) (.slice A59 x41.length c60) x41 from Kd.R_below (by (with_reducible repeat (first | apply Kd.R_drewN | apply Kd.R_drew)); exact F62.out) hb)
  replace HC63 := Aside0.mk (show Kd.C (Kd.int .i64) w14 A59 x41.length x41 from Kd.C_below (by (with_reducible repeat (first | apply Kd.C_drewN | apply Kd.C_drew)); exact HC63.out) hb)
  replace F68 := Aside0.mk (show Kd.R (Kd.int .i64) 3 w14 w.heap.size (fun k_ => (lo179 ≤ k_ ∧ k_ < hi180) ∧ some k_ ≠ (.slice A59 x41.length c60 : Value).ownBlock) (.slice A65 x42.length c66) x42 from Kd.R_below (by (with_reducible repeat (first | apply Kd.R_drewN | apply Kd.R_drew)); exact F68.out) hb)
  replace HC69 := Aside0.mk (show Kd.C (Kd.int .i64) w14 A65 x42.length x42 from Kd.C_below (by (with_reducible repeat (first | apply Kd.C_drewN | apply Kd.C_drew)); exact HC69.out) hb)
  replace F74 := Aside0.mk (show Kd.R k39 39 w14 w.heap.size (fun k_ => (lo179 ≤ k_ ∧ k_ < hi180) ∧ some k_ ≠ (.slice A77 x44.length c78 : Value).ownBlock) (.slice A71 x43.length c72) x43 from Kd.R_below (by (with_reducible repeat (first | apply Kd.R_drewN | apply Kd.R_drew)); exact F74.out) hb)
  replace HC75 := Aside0.mk (show Kd.C k39 w14 A71 x43.length x43 from Kd.C_below (by (with_reducible repeat (first | apply Kd.C_drewN | apply Kd.C_drew)); exact HC75.out) hb)
  replace F80 := Aside0.mk (show Kd.R k39 39 w14 w.heap.size (fun k_ => (lo179 ≤ k_ ∧ k_ < hi180) ∧ some k_ ≠ (.slice A71 x43.length c72 : Value).ownBlock) (.slice A77 x44.length c78) x44 from Kd.R_below (by (with_reducible repeat (first | apply Kd.R_drewN | apply Kd.R_drew)); exact F80.out) hb)
  replace HC81 := Aside0.mk (show Kd.C k39 w14 A77 x44.length x44 from Kd.C_below (by (with_reducible repeat (first | apply Kd.C_drewN | apply Kd.C_drew)); exact HC81.out) hb)
  replace BK5 := Aside0.mk (show w14.heap[gb5]? = some (.cells #[.slice A17 x41.length c18, .slice A23 x42.length c24, .slice A29 x43.length c30, .slice A35 x44.length c36, .int .i64 x45] 55 (0, 0)) from blk_below (by (with_reducible repeat (first | refine blk_drewN ?_ _ | refine blk_drew ?_)); exact BK5.out) hb)
  clear k5_0 k5_1 k5_2 k5_3 k5_4
  have k5_0 : w14.cell? ⟨gb5, 0, none⟩ = some (.slice A17 x41.length c18) := (blk_cell BK5.out 0).trans rfl
  have k5_1 : w14.cell? ⟨gb5, 1, none⟩ = some (.slice A23 x42.length c24) := (blk_cell BK5.out 1).trans rfl
  have k5_2 : w14.cell? ⟨gb5, 2, none⟩ = some (.slice A29 x43.length c30) := (blk_cell BK5.out 2).trans rfl
  have k5_3 : w14.cell? ⟨gb5, 3, none⟩ = some (.slice A35 x44.length c36) := (blk_cell BK5.out 3).trans rfl
  have k5_4 : w14.cell? ⟨gb5, 4, none⟩ = some (.int .i64 x45) := (blk_cell BK5.out 4).trans rfl
  replace BK9 := Aside0.mk (show w14.heap[gb9]? = some (.cells #[.slice A59 x41.length c60, .slice A65 x42.length c66, .slice A71 x43.length c72, .slice A77 x44.length c78, .int .i64 x45] 55 (0, 0)) from blk_below (by (with_reducible repeat (first | refine blk_drewN ?_ _ | refine blk_drew ?_)); exact BK9.out) hb)
  clear k9_0 k9_1 k9_2 k9_3 k9_4
  have k9_0 : w14.cell? ⟨gb9, 0, none⟩ = some (.slice A59 x41.length c60) := (blk_cell BK9.out 0).trans rfl
  have k9_1 : w14.cell? ⟨gb9, 1, none⟩ = some (.slice A65 x42.length c66) := (blk_cell BK9.out 1).trans rfl
  have k9_2 : w14.cell? ⟨gb9, 2, none⟩ = some (.slice A71 x43.length c72) := (blk_cell BK9.out 2).trans rfl
  have k9_3 : w14.cell? ⟨gb9, 3, none⟩ = some (.slice A77 x44.length c78) := (blk_cell BK9.out 3).trans rfl
  have k9_4 : w14.cell? ⟨gb9, 4, none⟩ = some (.int .i64 x45) := (blk_cell BK9.out 4).trans rfl
  replace HN := Aside0.mk (show hi191 ≤ w14.heap.size from Nat.le_trans HN.out hb.size)
  replace HB := HB2
  clear HB2 hb
  go_wp2_with fail
  go_at_call 46
  refine (laws_markJob.calls k (fun k_ => some k_ = (.slice A59 x41.length c60 : Value).ownBlock) (.slice A59 x41.length c60) x41 (fun k_ => some k_ = (.slice A65 x42.length c66 : Value).ownBlock) (.slice A65 x42.length c66) x42 (fun k_ => some k_ = (.slice A71 x43.length c72 : Value).ownBlock) (.slice A71 x43.length c72) x43 (fun k_ => some k_ = (.slice A77 x44.length c78 : Value).ownBlock) (.slice A77 x44.length c78) x44 x45 1 t101 x102 x103 x104 x105 w _ (by repeat (first | exact HB.out | apply pw_below_drewN | apply below_drew1)) (Kd.R_tight rfl (by (with_reducible repeat (first | apply Kd.R_drewN | apply Kd.R_drew)); exact F62.out)) (fun k_ h1_ h2_ => (F62.out.1 k_ h1_.symm).2 h2_) (Kd.R_tight rfl (by (with_reducible repeat (first | apply Kd.R_drewN | apply Kd.R_drew)); exact F68.out)) (fun k_ h1_ h2_ => (F68.out.1 k_ h1_.symm).2 h2_) (Kd.R_tight rfl (by (with_reducible repeat (first | apply Kd.R_drewN | apply Kd.R_drew)); exact F74.out)) (fun k_ h1_ h2_ => (F74.out.1 k_ h1_.symm).2 h2_) (Kd.R_tight rfl (by (with_reducible repeat (first | apply Kd.R_drewN | apply Kd.R_drew)); exact F80.out)) (fun k_ h1_ h2_ => (F80.out.1 k_ h1_.symm).2 h2_) H158.out).mono ?_
  rintro e w15 ⟨rfl, hF0, hF1, hF2, hF3, hB2, hK⟩
  replace F20 := Aside0.mk (show Kd.R (Kd.int .i64) 3 w15 w.heap.size (fun k_ => (lo167 ≤ k_ ∧ k_ < hi168) ∧ some k_ ≠ (.slice A23 x42.length c24 : Value).ownBlock) (.slice A17 x41.length c18) x41 from Kd.R_kept (S := (fun k_ => some k_ = (.slice A59 x41.length c60 : Value).ownBlock ∨ some k_ = (.slice A65 x42.length c66 : Value).ownBlock ∨ some k_ = (.slice A71 x43.length c72 : Value).ownBlock ∨ some k_ = (.slice A77 x44.length c78 : Value).ownBlock)) (by (with_reducible repeat (first | apply Kd.R_drewN | apply Kd.R_drew)); exact F20.out) hK (fun k_ h1_ h2_ => Or.elim h2_ (fun e_ => by have h3_ := h1_.1; have h4_ := (F62.out.1 k_ e_.symm).1; have := O163.out; have := O166.out; have := O169.out; have := O172.out; have := O175.out; have := O178.out; have := O181.out; have := O184.out; have := O187.out; have := O192.out; omega) (fun e_ => Or.elim e_ (fun e_ => by have h3_ := h1_.1; have h4_ := (F68.out.1 k_ e_.symm).1; have := O163.out; have := O166.out; have := O169.out; have := O172.out; have := O175.out; have := O178.out; have := O181.out; have := O184.out; have := O187.out; have := O192.out; omega) (fun e_ => Or.elim e_ (fun e_ => by have h3_ := h1_.1; have h4_ := (F74.out.1 k_ e_.symm).1; have := O163.out; have := O166.out; have := O169.out; have := O172.out; have := O175.out; have := O178.out; have := O181.out; have := O184.out; have := O187.out; have := O192.out; omega) (fun e_ => (fun e_ => by have h3_ := h1_.1; have h4_ := (F80.out.1 k_ e_.symm).1; have := O163.out; have := O166.out; have := O169.out; have := O172.out; have := O175.out; have := O178.out; have := O181.out; have := O184.out; have := O187.out; have := O192.out; omega) e_)))))
  replace HC21 := Aside0.mk (show Kd.C (Kd.int .i64) w15 A17 x41.length x41 from (Kd.R_reads' F20.out).2.2)
  replace F26 := Aside0.mk (show Kd.R (Kd.int .i64) 3 w15 w.heap.size (fun k_ => (lo167 ≤ k_ ∧ k_ < hi168) ∧ some k_ ≠ (.slice A17 x41.length c18 : Value).ownBlock) (.slice A23 x42.length c24) x42 from Kd.R_kept (S := (fun k_ => some k_ = (.slice A59 x41.length c60 : Value).ownBlock ∨ some k_ = (.slice A65 x42.length c66 : Value).ownBlock ∨ some k_ = (.slice A71 x43.length c72 : Value).ownBlock ∨ some k_ = (.slice A77 x44.length c78 : Value).ownBlock)) (by (with_reducible repeat (first | apply Kd.R_drewN | apply Kd.R_drew)); exact F26.out) hK (fun k_ h1_ h2_ => Or.elim h2_ (fun e_ => by have h3_ := h1_.1; have h4_ := (F62.out.1 k_ e_.symm).1; have := O163.out; have := O166.out; have := O169.out; have := O172.out; have := O175.out; have := O178.out; have := O181.out; have := O184.out; have := O187.out; have := O192.out; omega) (fun e_ => Or.elim e_ (fun e_ => by have h3_ := h1_.1; have h4_ := (F68.out.1 k_ e_.symm).1; have := O163.out; have := O166.out; have := O169.out; have := O172.out; have := O175.out; have := O178.out; have := O181.out; have := O184.out; have := O187.out; have := O192.out; omega) (fun e_ => Or.elim e_ (fun e_ => by have h3_ := h1_.1; have h4_ := (F74.out.1 k_ e_.symm).1; have := O163.out; have := O166.out; have := O169.out; have := O172.out; have := O175.out; have := O178.out; have := O181.out; have := O184.out; have := O187.out; have := O192.out; omega) (fun e_ => (fun e_ => by have h3_ := h1_.1; have h4_ := (F80.out.1 k_ e_.symm).1; have := O163.out; have := O166.out; have := O169.out; have := O172.out; have := O175.out; have := O178.out; have := O181.out; have := O184.out; have := O187.out; have := O192.out; omega) e_)))))
  replace HC27 := Aside0.mk (show Kd.C (Kd.int .i64) w15 A23 x42.length x42 from (Kd.R_reads' F26.out).2.2)
  replace F32 := Aside0.mk (show Kd.R k39 39 w15 w.heap.size (fun k_ => (lo167 ≤ k_ ∧ k_ < hi168) ∧ some k_ ≠ (.slice A35 x44.length c36 : Value).ownBlock) (.slice A29 x43.length c30) x43 from Kd.R_kept (S := (fun k_ => some k_ = (.slice A59 x41.length c60 : Value).ownBlock ∨ some k_ = (.slice A65 x42.length c66 : Value).ownBlock ∨ some k_ = (.slice A71 x43.length c72 : Value).ownBlock ∨ some k_ = (.slice A77 x44.length c78 : Value).ownBlock)) (by (with_reducible repeat (first | apply Kd.R_drewN | apply Kd.R_drew)); exact F32.out) hK (fun k_ h1_ h2_ => Or.elim h2_ (fun e_ => by have h3_ := h1_.1; have h4_ := (F62.out.1 k_ e_.symm).1; have := O163.out; have := O166.out; have := O169.out; have := O172.out; have := O175.out; have := O178.out; have := O181.out; have := O184.out; have := O187.out; have := O192.out; omega) (fun e_ => Or.elim e_ (fun e_ => by have h3_ := h1_.1; have h4_ := (F68.out.1 k_ e_.symm).1; have := O163.out; have := O166.out; have := O169.out; have := O172.out; have := O175.out; have := O178.out; have := O181.out; have := O184.out; have := O187.out; have := O192.out; omega) (fun e_ => Or.elim e_ (fun e_ => by have h3_ := h1_.1; have h4_ := (F74.out.1 k_ e_.symm).1; have := O163.out; have := O166.out; have := O169.out; have := O172.out; have := O175.out; have := O178.out; have := O181.out; have := O184.out; have := O187.out; have := O192.out; omega) (fun e_ => (fun e_ => by have h3_ := h1_.1; have h4_ := (F80.out.1 k_ e_.symm).1; have := O163.out; have := O166.out; have := O169.out; have := O172.out; have := O175.out; have := O178.out; have := O181.out; have := O184.out; have := O187.out; have := O192.out; omega) e_)))))
  replace HC33 := Aside0.mk (show Kd.C k39 w15 A29 x43.length x43 from (Kd.R_reads' F32.out).2.2)
  replace F38 := Aside0.mk (show Kd.R k39 39 w15 w.heap.size (fun k_ => (lo167 ≤ k_ ∧ k_ < hi168) ∧ some k_ ≠ (.slice A29 x43.length c30 : Value).ownBlock) (.slice A35 x44.length c36) x44 from Kd.R_kept (S := (fun k_ => some k_ = (.slice A59 x41.length c60 : Value).ownBlock ∨ some k_ = (.slice A65 x42.length c66 : Value).ownBlock ∨ some k_ = (.slice A71 x43.length c72 : Value).ownBlock ∨ some k_ = (.slice A77 x44.length c78 : Value).ownBlock)) (by (with_reducible repeat (first | apply Kd.R_drewN | apply Kd.R_drew)); exact F38.out) hK (fun k_ h1_ h2_ => Or.elim h2_ (fun e_ => by have h3_ := h1_.1; have h4_ := (F62.out.1 k_ e_.symm).1; have := O163.out; have := O166.out; have := O169.out; have := O172.out; have := O175.out; have := O178.out; have := O181.out; have := O184.out; have := O187.out; have := O192.out; omega) (fun e_ => Or.elim e_ (fun e_ => by have h3_ := h1_.1; have h4_ := (F68.out.1 k_ e_.symm).1; have := O163.out; have := O166.out; have := O169.out; have := O172.out; have := O175.out; have := O178.out; have := O181.out; have := O184.out; have := O187.out; have := O192.out; omega) (fun e_ => Or.elim e_ (fun e_ => by have h3_ := h1_.1; have h4_ := (F74.out.1 k_ e_.symm).1; have := O163.out; have := O166.out; have := O169.out; have := O172.out; have := O175.out; have := O178.out; have := O181.out; have := O184.out; have := O187.out; have := O192.out; omega) (fun e_ => (fun e_ => by have h3_ := h1_.1; have h4_ := (F80.out.1 k_ e_.symm).1; have := O163.out; have := O166.out; have := O169.out; have := O172.out; have := O175.out; have := O178.out; have := O181.out; have := O184.out; have := O187.out; have := O192.out; omega) e_)))))
  replace HC39 := Aside0.mk (show Kd.C k39 w15 A35 x44.length x44 from (Kd.R_reads' F38.out).2.2)
  replace BK5 := Aside0.mk (show w15.heap[gb5]? = some (.cells #[.slice A17 x41.length c18, .slice A23 x42.length c24, .slice A29 x43.length c30, .slice A35 x44.length c36, .int .i64 x45] 55 (0, 0)) from blk_kept (by (with_reducible repeat (first | refine blk_drewN ?_ _ | refine blk_drew ?_)); exact BK5.out) hK (fun h_ => Or.elim h_ (fun e_ => by have h4_ := (F62.out.1 gb5 e_.symm).1; have := EG5.out; have := O163.out; have := O166.out; have := O169.out; have := O172.out; have := O175.out; have := O178.out; have := O181.out; have := O184.out; have := O187.out; have := O192.out; omega) (fun e_ => Or.elim e_ (fun e_ => by have h4_ := (F68.out.1 gb5 e_.symm).1; have := EG5.out; have := O163.out; have := O166.out; have := O169.out; have := O172.out; have := O175.out; have := O178.out; have := O181.out; have := O184.out; have := O187.out; have := O192.out; omega) (fun e_ => Or.elim e_ (fun e_ => by have h4_ := (F74.out.1 gb5 e_.symm).1; have := EG5.out; have := O163.out; have := O166.out; have := O169.out; have := O172.out; have := O175.out; have := O178.out; have := O181.out; have := O184.out; have := O187.out; have := O192.out; omega) (fun e_ => (fun e_ => by have h4_ := (F80.out.1 gb5 e_.symm).1; have := EG5.out; have := O163.out; have := O166.out; have := O169.out; have := O172.out; have := O175.out; have := O178.out; have := O181.out; have := O184.out; have := O187.out; have := O192.out; omega) e_)))))
  clear k5_0 k5_1 k5_2 k5_3 k5_4
  have k5_0 : w15.cell? ⟨gb5, 0, none⟩ = some (.slice A17 x41.length c18) := (blk_cell BK5.out 0).trans rfl
  have k5_1 : w15.cell? ⟨gb5, 1, none⟩ = some (.slice A23 x42.length c24) := (blk_cell BK5.out 1).trans rfl
  have k5_2 : w15.cell? ⟨gb5, 2, none⟩ = some (.slice A29 x43.length c30) := (blk_cell BK5.out 2).trans rfl
  have k5_3 : w15.cell? ⟨gb5, 3, none⟩ = some (.slice A35 x44.length c36) := (blk_cell BK5.out 3).trans rfl
  have k5_4 : w15.cell? ⟨gb5, 4, none⟩ = some (.int .i64 x45) := (blk_cell BK5.out 4).trans rfl
  replace BK9 := Aside0.mk (show w15.heap[gb9]? = some (.cells #[.slice A59 x41.length c60, .slice A65 x42.length c66, .slice A71 x43.length c72, .slice A77 x44.length c78, .int .i64 x45] 55 (0, 0)) from blk_kept (by (with_reducible repeat (first | refine blk_drewN ?_ _ | refine blk_drew ?_)); exact BK9.out) hK (fun h_ => Or.elim h_ (fun e_ => by have h4_ := (F62.out.1 gb9 e_.symm).1; have := EG9.out; have := O163.out; have := O166.out; have := O169.out; have := O172.out; have := O175.out; have := O178.out; have := O181.out; have := O184.out; have := O187.out; have := O192.out; omega) (fun e_ => Or.elim e_ (fun e_ => by have h4_ := (F68.out.1 gb9 e_.symm).1; have := EG9.out; have := O163.out; have := O166.out; have := O169.out; have := O172.out; have := O175.out; have := O178.out; have := O181.out; have := O184.out; have := O187.out; have := O192.out; omega) (fun e_ => Or.elim e_ (fun e_ => by have h4_ := (F74.out.1 gb9 e_.symm).1; have := EG9.out; have := O163.out; have := O166.out; have := O169.out; have := O172.out; have := O175.out; have := O178.out; have := O181.out; have := O184.out; have := O187.out; have := O192.out; omega) (fun e_ => (fun e_ => by have h4_ := (F80.out.1 gb9 e_.symm).1; have := EG9.out; have := O163.out; have := O166.out; have := O169.out; have := O172.out; have := O175.out; have := O178.out; have := O181.out; have := O184.out; have := O187.out; have := O192.out; omega) e_)))))
  clear k9_0 k9_1 k9_2 k9_3 k9_4
  have k9_0 : w15.cell? ⟨gb9, 0, none⟩ = some (.slice A59 x41.length c60) := (blk_cell BK9.out 0).trans rfl
  have k9_1 : w15.cell? ⟨gb9, 1, none⟩ = some (.slice A65 x42.length c66) := (blk_cell BK9.out 1).trans rfl
  have k9_2 : w15.cell? ⟨gb9, 2, none⟩ = some (.slice A71 x43.length c72) := (blk_cell BK9.out 2).trans rfl
  have k9_3 : w15.cell? ⟨gb9, 3, none⟩ = some (.slice A77 x44.length c78) := (blk_cell BK9.out 3).trans rfl
  have k9_4 : w15.cell? ⟨gb9, 4, none⟩ = some (.int .i64 x45) := (blk_cell BK9.out 4).trans rfl
  replace F62 := Aside0.mk (show Kd.R (Kd.int .i64) 3 w15 w.heap.size (fun k_ => (lo179 ≤ k_ ∧ k_ < hi180) ∧ some k_ ≠ (.slice A65 x42.length c66 : Value).ownBlock) (.slice A59 x41.length c60) x102 from Kd.R_mono (Kd.R_tight rfl hF0) (fun k_ hk_ => F62.out.1 k_ hk_.symm))
  replace HC63 := Aside0.mk (show Kd.C (Kd.int .i64) w15 A59 x102.length x102 from (Kd.R_reads' F62.out).2.2)
  have HQ198 := Aside0.mk (show x41.length = x102.length from (Kd.R_reads' F62.out).1)
  replace HL64 := Aside0.mk (show x102.length ≤ c60 from by rw [← HQ198.out]; exact HL64.out)
  replace F68 := Aside0.mk (show Kd.R (Kd.int .i64) 3 w15 w.heap.size (fun k_ => (lo179 ≤ k_ ∧ k_ < hi180) ∧ some k_ ≠ (.slice A59 x41.length c60 : Value).ownBlock) (.slice A65 x42.length c66) x103 from Kd.R_mono (Kd.R_tight rfl hF1) (fun k_ hk_ => F68.out.1 k_ hk_.symm))
  replace HC69 := Aside0.mk (show Kd.C (Kd.int .i64) w15 A65 x103.length x103 from (Kd.R_reads' F68.out).2.2)
  have HQ199 := Aside0.mk (show x42.length = x103.length from (Kd.R_reads' F68.out).1)
  replace HL70 := Aside0.mk (show x103.length ≤ c66 from by rw [← HQ199.out]; exact HL70.out)
  replace F74 := Aside0.mk (show Kd.R k39 39 w15 w.heap.size (fun k_ => (lo179 ≤ k_ ∧ k_ < hi180) ∧ some k_ ≠ (.slice A77 x44.length c78 : Value).ownBlock) (.slice A71 x43.length c72) x104 from Kd.R_mono (Kd.R_tight rfl hF2) (fun k_ hk_ => F74.out.1 k_ hk_.symm))
  replace HC75 := Aside0.mk (show Kd.C k39 w15 A71 x104.length x104 from (Kd.R_reads' F74.out).2.2)
  have HQ200 := Aside0.mk (show x43.length = x104.length from (Kd.R_reads' F74.out).1)
  replace HL76 := Aside0.mk (show x104.length ≤ c72 from by rw [← HQ200.out]; exact HL76.out)
  replace F80 := Aside0.mk (show Kd.R k39 39 w15 w.heap.size (fun k_ => (lo179 ≤ k_ ∧ k_ < hi180) ∧ some k_ ≠ (.slice A71 x43.length c72 : Value).ownBlock) (.slice A77 x44.length c78) x105 from Kd.R_mono (Kd.R_tight rfl hF3) (fun k_ hk_ => F80.out.1 k_ hk_.symm))
  replace HC81 := Aside0.mk (show Kd.C k39 w15 A77 x105.length x105 from (Kd.R_reads' F80.out).2.2)
  have HQ201 := Aside0.mk (show x44.length = x105.length from (Kd.R_reads' F80.out).1)
  replace HL82 := Aside0.mk (show x105.length ≤ c78 from by rw [← HQ201.out]; exact HL82.out)
  replace HN := Aside0.mk (show hi191 ≤ w15.heap.size from Nat.le_trans HN.out hK.1)
  replace HB := Aside0.mk hB2
  clear hB2 hK hF0 hF1 hF2 hF3
  go_wp2_with fail
  go_at_call 47
  refine calls_of_args (args' := #[.agg #[.slice A59 x102.length c60, .slice A65 x103.length c66, .slice A71 x104.length c72, .slice A77 x105.length c78, .int .i64 x45], .int .i64 1]) (by rw [HQ198.out, HQ199.out, HQ200.out, HQ201.out]) ?_
  refine (laws_heldJob.calls k A59 c60 x102 A65 c66 x103 A71 c72 x104 A77 c78 x105 x45 1 t101 _ (by (with_reducible repeat (first | apply Kd.C_drewN | apply Kd.C_drew)); exact HC63.out) HL64.out (by (with_reducible repeat (first | apply Kd.C_drewN | apply Kd.C_drew)); exact HC69.out) HL70.out (by (with_reducible repeat (first | apply Kd.C_drewN | apply Kd.C_drew)); exact HC75.out) HL76.out (by (with_reducible repeat (first | apply Kd.C_drewN | apply Kd.C_drew)); exact HC81.out) HL82.out H159.out).mono ?_
  rintro e w16 ⟨rfl, hb⟩
  have HB2 := Aside0.mk (below_next (N := hi191) (by repeat (first | exact HB.out | apply pw_below_drewN | apply below_drew1)) (by exact HN.out) (by have := O163.out; have := O166.out; have := O169.out; have := O172.out; have := O175.out; have := O178.out; have := O181.out; have := O184.out; have := O187.out; have := O192.out; omega) hb)
  replace F20 := Aside0.mk (show Kd.R (Kd.int .i64) 3 w16 w.heap.size (fun k_ => (lo167 ≤ k_ ∧ k_ < hi168) ∧ some k_ ≠ (.slice A23 x42.length c24 : Value).ownBlock) (.slice A17 x41.length c18) x41 from Kd.R_below (by (with_reducible repeat (first | apply Kd.R_drewN | apply Kd.R_drew)); exact F20.out) hb)
  replace HC21 := Aside0.mk (show Kd.C (Kd.int .i64) w16 A17 x41.length x41 from Kd.C_below (by (with_reducible repeat (first | apply Kd.C_drewN | apply Kd.C_drew)); exact HC21.out) hb)
  replace F26 := Aside0.mk (show Kd.R (Kd.int .i64) 3 w16 w.heap.size (fun k_ => (lo167 ≤ k_ ∧ k_ < hi168) ∧ some k_ ≠ (.slice A17 x41.length c18 : Value).ownBlock) (.slice A23 x42.length c24) x42 from Kd.R_below (by (with_reducible repeat (first | apply Kd.R_drewN | apply Kd.R_drew)); exact F26.out) hb)
  replace HC27 := Aside0.mk (show Kd.C (Kd.int .i64) w16 A23 x42.length x42 from Kd.C_below (by (with_reducible repeat (first | apply Kd.C_drewN | apply Kd.C_drew)); exact HC27.out) hb)
  replace F32 := Aside0.mk (show Kd.R k39 39 w16 w.heap.size (fun k_ => (lo167 ≤ k_ ∧ k_ < hi168) ∧ some k_ ≠ (.slice A35 x44.length c36 : Value).ownBlock) (.slice A29 x43.length c30) x43 from Kd.R_below (by (with_reducible repeat (first | apply Kd.R_drewN | apply Kd.R_drew)); exact F32.out) hb)
  replace HC33 := Aside0.mk (show Kd.C k39 w16 A29 x43.length x43 from Kd.C_below (by (with_reducible repeat (first | apply Kd.C_drewN | apply Kd.C_drew)); exact HC33.out) hb)
  replace F38 := Aside0.mk (show Kd.R k39 39 w16 w.heap.size (fun k_ => (lo167 ≤ k_ ∧ k_ < hi168) ∧ some k_ ≠ (.slice A29 x43.length c30 : Value).ownBlock) (.slice A35 x44.length c36) x44 from Kd.R_below (by (with_reducible repeat (first | apply Kd.R_drewN | apply Kd.R_drew)); exact F38.out) hb)
  replace HC39 := Aside0.mk (show Kd.C k39 w16 A35 x44.length x44 from Kd.C_below (by (with_reducible repeat (first | apply Kd.C_drewN | apply Kd.C_drew)); exact HC39.out) hb)
  replace F62 := Aside0.mk (show Kd.R (Kd.int .i64) 3 w16 w.heap.size (fun k_ => (lo179 ≤ k_ ∧ k_ < hi180) ∧ some k_ ≠ (.slice A65 x42.length c66 : Value).ownBlock) (.slice A59 x41.length c60) x102 from Kd.R_below (by (with_reducible repeat (first | apply Kd.R_drewN | apply Kd.R_drew)); exact F62.out) hb)
  replace HC63 := Aside0.mk (show Kd.C (Kd.int .i64) w16 A59 x102.length x102 from Kd.C_below (by (with_reducible repeat (first | apply Kd.C_drewN | apply Kd.C_drew)); exact HC63.out) hb)
  replace F68 := Aside0.mk (show Kd.R (Kd.int .i64) 3 w16 w.heap.size (fun k_ => (lo179 ≤ k_ ∧ k_ < hi180) ∧ some k_ ≠ (.slice A59 x41.length c60 : Value).ownBlock) (.slice A65 x42.length c66) x103 from Kd.R_below (by (with_reducible repeat (first | apply Kd.R_drewN | apply Kd.R_drew)); exact F68.out) hb)
  replace HC69 := Aside0.mk (show Kd.C (Kd.int .i64) w16 A65 x103.length x103 from Kd.C_below (by (with_reducible repeat (first | apply Kd.C_drewN | apply Kd.C_drew)); exact HC69.out) hb)
  replace F74 := Aside0.mk (show Kd.R k39 39 w16 w.heap.size (fun k_ => (lo179 ≤ k_ ∧ k_ < hi180) ∧ some k_ ≠ (.slice A77 x44.length c78 : Value).ownBlock) (.slice A71 x43.length c72) x104 from Kd.R_below (by (with_reducible repeat (first | apply Kd.R_drewN | apply Kd.R_drew)); exact F74.out) hb)
  replace HC75 := Aside0.mk (show Kd.C k39 w16 A71 x104.length x104 from Kd.C_below (by (with_reducible repeat (first | apply Kd.C_drewN | apply Kd.C_drew)); exact HC75.out) hb)
  replace F80 := Aside0.mk (show Kd.R k39 39 w16 w.heap.size (fun k_ => (lo179 ≤ k_ ∧ k_ < hi180) ∧ some k_ ≠ (.slice A71 x43.length c72 : Value).ownBlock) (.slice A77 x44.length c78) x105 from Kd.R_below (by (with_reducible repeat (first | apply Kd.R_drewN | apply Kd.R_drew)); exact F80.out) hb)
  replace HC81 := Aside0.mk (show Kd.C k39 w16 A77 x105.length x105 from Kd.C_below (by (with_reducible repeat (first | apply Kd.C_drewN | apply Kd.C_drew)); exact HC81.out) hb)
  replace BK5 := Aside0.mk (show w16.heap[gb5]? = some (.cells #[.slice A17 x41.length c18, .slice A23 x42.length c24, .slice A29 x43.length c30, .slice A35 x44.length c36, .int .i64 x45] 55 (0, 0)) from blk_below (by (with_reducible repeat (first | refine blk_drewN ?_ _ | refine blk_drew ?_)); exact BK5.out) hb)
  clear k5_0 k5_1 k5_2 k5_3 k5_4
  have k5_0 : w16.cell? ⟨gb5, 0, none⟩ = some (.slice A17 x41.length c18) := (blk_cell BK5.out 0).trans rfl
  have k5_1 : w16.cell? ⟨gb5, 1, none⟩ = some (.slice A23 x42.length c24) := (blk_cell BK5.out 1).trans rfl
  have k5_2 : w16.cell? ⟨gb5, 2, none⟩ = some (.slice A29 x43.length c30) := (blk_cell BK5.out 2).trans rfl
  have k5_3 : w16.cell? ⟨gb5, 3, none⟩ = some (.slice A35 x44.length c36) := (blk_cell BK5.out 3).trans rfl
  have k5_4 : w16.cell? ⟨gb5, 4, none⟩ = some (.int .i64 x45) := (blk_cell BK5.out 4).trans rfl
  replace BK9 := Aside0.mk (show w16.heap[gb9]? = some (.cells #[.slice A59 x41.length c60, .slice A65 x42.length c66, .slice A71 x43.length c72, .slice A77 x44.length c78, .int .i64 x45] 55 (0, 0)) from blk_below (by (with_reducible repeat (first | refine blk_drewN ?_ _ | refine blk_drew ?_)); exact BK9.out) hb)
  clear k9_0 k9_1 k9_2 k9_3 k9_4
  have k9_0 : w16.cell? ⟨gb9, 0, none⟩ = some (.slice A59 x41.length c60) := (blk_cell BK9.out 0).trans rfl
  have k9_1 : w16.cell? ⟨gb9, 1, none⟩ = some (.slice A65 x42.length c66) := (blk_cell BK9.out 1).trans rfl
  have k9_2 : w16.cell? ⟨gb9, 2, none⟩ = some (.slice A71 x43.length c72) := (blk_cell BK9.out 2).trans rfl
  have k9_3 : w16.cell? ⟨gb9, 3, none⟩ = some (.slice A77 x44.length c78) := (blk_cell BK9.out 3).trans rfl
  have k9_4 : w16.cell? ⟨gb9, 4, none⟩ = some (.int .i64 x45) := (blk_cell BK9.out 4).trans rfl
  replace HN := Aside0.mk (show hi191 ≤ w16.heap.size from Nat.le_trans HN.out hb.size)
  replace HB := HB2
  clear HB2 hb
  have d202 : decide (t101 < 0) = false := decide_eq_false (by have := H160.out; omega)
  go_wp2_with fail
  go_at_call 16
  refine (laws_toIntS.calls k A0 c0 l0 x8 _ (Kd.C_below HR0.out (by repeat (first | exact HB.out | apply pw_below_drewN | apply below_drew1))) HL0.out H148.out).mono ?_
  rintro e w17 ⟨v109, rfl, hF110, hb⟩
  have HB2 := Aside0.mk (below_next (N := hi191) (by repeat (first | exact HB.out | apply pw_below_drewN | apply below_drew1)) (by exact HN.out) (by have := O163.out; have := O166.out; have := O169.out; have := O172.out; have := O175.out; have := O178.out; have := O181.out; have := O184.out; have := O187.out; have := O192.out; omega) hb)
  replace F20 := Aside0.mk (show Kd.R (Kd.int .i64) 3 w17 w.heap.size (fun k_ => (lo167 ≤ k_ ∧ k_ < hi168) ∧ some k_ ≠ (.slice A23 x42.length c24 : Value).ownBlock) (.slice A17 x41.length c18) x41 from Kd.R_below (by (with_reducible repeat (first | apply Kd.R_drewN | apply Kd.R_drew)); exact F20.out) hb)
  replace HC21 := Aside0.mk (show Kd.C (Kd.int .i64) w17 A17 x41.length x41 from Kd.C_below (by (with_reducible repeat (first | apply Kd.C_drewN | apply Kd.C_drew)); exact HC21.out) hb)
  replace F26 := Aside0.mk (show Kd.R (Kd.int .i64) 3 w17 w.heap.size (fun k_ => (lo167 ≤ k_ ∧ k_ < hi168) ∧ some k_ ≠ (.slice A17 x41.length c18 : Value).ownBlock) (.slice A23 x42.length c24) x42 from Kd.R_below (by (with_reducible repeat (first | apply Kd.R_drewN | apply Kd.R_drew)); exact F26.out) hb)
  replace HC27 := Aside0.mk (show Kd.C (Kd.int .i64) w17 A23 x42.length x42 from Kd.C_below (by (with_reducible repeat (first | apply Kd.C_drewN | apply Kd.C_drew)); exact HC27.out) hb)
  replace F32 := Aside0.mk (show Kd.R k39 39 w17 w.heap.size (fun k_ => (lo167 ≤ k_ ∧ k_ < hi168) ∧ some k_ ≠ (.slice A35 x44.length c36 : Value).ownBlock) (.slice A29 x43.length c30) x43 from Kd.R_below (by (with_reducible repeat (first | apply Kd.R_drewN | apply Kd.R_drew)); exact F32.out) hb)
  replace HC33 := Aside0.mk (show Kd.C k39 w17 A29 x43.length x43 from Kd.C_below (by (with_reducible repeat (first | apply Kd.C_drewN | apply Kd.C_drew)); exact HC33.out) hb)
  replace F38 := Aside0.mk (show Kd.R k39 39 w17 w.heap.size (fun k_ => (lo167 ≤ k_ ∧ k_ < hi168) ∧ some k_ ≠ (.slice A29 x43.length c30 : Value).ownBlock) (.slice A35 x44.length c36) x44 from Kd.R_below (by (with_reducible repeat (first | apply Kd.R_drewN | apply Kd.R_drew)); exact F38.out) hb)
  replace HC39 := Aside0.mk (show Kd.C k39 w17 A35 x44.length x44 from Kd.C_below (by (with_reducible repeat (first | apply Kd.C_drewN | apply Kd.C_drew)); exact HC39.out) hb)
  replace F62 := Aside0.mk (show Kd.R (Kd.int .i64) 3 w17 w.heap.size (fun k_ => (lo179 ≤ k_ ∧ k_ < hi180) ∧ some k_ ≠ (.slice A65 x42.length c66 : Value).ownBlock) (.slice A59 x41.length c60) x102 from Kd.R_below (by (with_reducible repeat (first | apply Kd.R_drewN | apply Kd.R_drew)); exact F62.out) hb)
  replace HC63 := Aside0.mk (show Kd.C (Kd.int .i64) w17 A59 x102.length x102 from Kd.C_below (by (with_reducible repeat (first | apply Kd.C_drewN | apply Kd.C_drew)); exact HC63.out) hb)
  replace F68 := Aside0.mk (show Kd.R (Kd.int .i64) 3 w17 w.heap.size (fun k_ => (lo179 ≤ k_ ∧ k_ < hi180) ∧ some k_ ≠ (.slice A59 x41.length c60 : Value).ownBlock) (.slice A65 x42.length c66) x103 from Kd.R_below (by (with_reducible repeat (first | apply Kd.R_drewN | apply Kd.R_drew)); exact F68.out) hb)
  replace HC69 := Aside0.mk (show Kd.C (Kd.int .i64) w17 A65 x103.length x103 from Kd.C_below (by (with_reducible repeat (first | apply Kd.C_drewN | apply Kd.C_drew)); exact HC69.out) hb)
  replace F74 := Aside0.mk (show Kd.R k39 39 w17 w.heap.size (fun k_ => (lo179 ≤ k_ ∧ k_ < hi180) ∧ some k_ ≠ (.slice A77 x44.length c78 : Value).ownBlock) (.slice A71 x43.length c72) x104 from Kd.R_below (by (with_reducible repeat (first | apply Kd.R_drewN | apply Kd.R_drew)); exact F74.out) hb)
  replace HC75 := Aside0.mk (show Kd.C k39 w17 A71 x104.length x104 from Kd.C_below (by (with_reducible repeat (first | apply Kd.C_drewN | apply Kd.C_drew)); exact HC75.out) hb)
  replace F80 := Aside0.mk (show Kd.R k39 39 w17 w.heap.size (fun k_ => (lo179 ≤ k_ ∧ k_ < hi180) ∧ some k_ ≠ (.slice A71 x43.length c72 : Value).ownBlock) (.slice A77 x44.length c78) x105 from Kd.R_below (by (with_reducible repeat (first | apply Kd.R_drewN | apply Kd.R_drew)); exact F80.out) hb)
  replace HC81 := Aside0.mk (show Kd.C k39 w17 A77 x105.length x105 from Kd.C_below (by (with_reducible repeat (first | apply Kd.C_drewN | apply Kd.C_drew)); exact HC81.out) hb)
  replace BK5 := Aside0.mk (show w17.heap[gb5]? = some (.cells #[.slice A17 x41.length c18, .slice A23 x42.length c24, .slice A29 x43.length c30, .slice A35 x44.length c36, .int .i64 x45] 55 (0, 0)) from blk_below (by (with_reducible repeat (first | refine blk_drewN ?_ _ | refine blk_drew ?_)); exact BK5.out) hb)
  clear k5_0 k5_1 k5_2 k5_3 k5_4
  have k5_0 : w17.cell? ⟨gb5, 0, none⟩ = some (.slice A17 x41.length c18) := (blk_cell BK5.out 0).trans rfl
  have k5_1 : w17.cell? ⟨gb5, 1, none⟩ = some (.slice A23 x42.length c24) := (blk_cell BK5.out 1).trans rfl
  have k5_2 : w17.cell? ⟨gb5, 2, none⟩ = some (.slice A29 x43.length c30) := (blk_cell BK5.out 2).trans rfl
  have k5_3 : w17.cell? ⟨gb5, 3, none⟩ = some (.slice A35 x44.length c36) := (blk_cell BK5.out 3).trans rfl
  have k5_4 : w17.cell? ⟨gb5, 4, none⟩ = some (.int .i64 x45) := (blk_cell BK5.out 4).trans rfl
  replace BK9 := Aside0.mk (show w17.heap[gb9]? = some (.cells #[.slice A59 x41.length c60, .slice A65 x42.length c66, .slice A71 x43.length c72, .slice A77 x44.length c78, .int .i64 x45] 55 (0, 0)) from blk_below (by (with_reducible repeat (first | refine blk_drewN ?_ _ | refine blk_drew ?_)); exact BK9.out) hb)
  clear k9_0 k9_1 k9_2 k9_3 k9_4
  have k9_0 : w17.cell? ⟨gb9, 0, none⟩ = some (.slice A59 x41.length c60) := (blk_cell BK9.out 0).trans rfl
  have k9_1 : w17.cell? ⟨gb9, 1, none⟩ = some (.slice A65 x42.length c66) := (blk_cell BK9.out 1).trans rfl
  have k9_2 : w17.cell? ⟨gb9, 2, none⟩ = some (.slice A71 x43.length c72) := (blk_cell BK9.out 2).trans rfl
  have k9_3 : w17.cell? ⟨gb9, 3, none⟩ = some (.slice A77 x44.length c78) := (blk_cell BK9.out 3).trans rfl
  have k9_4 : w17.cell? ⟨gb9, 4, none⟩ = some (.int .i64 x45) := (blk_cell BK9.out 4).trans rfl
  obtain ⟨lo203, hi204, ho, hg⟩ := fresh_pts (N := hi191) hb (by exact HN.out)
  have O205 := Aside0.mk (show hi191 ≤ lo203 ∧ lo203 ≤ hi204 from ⟨ho.1, ho.2.1⟩)
  have hF110b := R_in hF110 hg (B := w.heap.size) (by have := O163.out; have := O166.out; have := O169.out; have := O172.out; have := O175.out; have := O178.out; have := O181.out; have := O184.out; have := O187.out; have := O192.out; have := O205.out; omega)
  obtain ⟨A107, c108, rfl, hle, hC⟩ := Kd.R_reads hF110b
  have HC111 := Aside0.mk hC
  have HL112 := Aside0.mk hle
  clear hle hC
  have F110 := Aside0.mk (show Kd.R (Kd.int .i64) 3 w17 w.heap.size (fun k_ => (lo203 ≤ k_ ∧ k_ < hi204) ∧ True) (.slice A107 x8.length c108) x8 from hF110b)
  clear hF110 hF110b
  replace HN := Aside0.mk (show hi204 ≤ w17.heap.size from ho.2.2)
  clear ho hg
  replace HB := HB2
  clear HB2 hb
  go_wp2_with fail
  go_at_call 16
  refine (laws_toIntS.calls k A1 c1 l1 x16 _ (Kd.C_below HR1.out (by repeat (first | exact HB.out | apply pw_below_drewN | apply below_drew1))) HL1.out H149.out).mono ?_
  rintro e w18 ⟨v116, rfl, hF117, hb⟩
  have HB2 := Aside0.mk (below_next (N := hi204) (by repeat (first | exact HB.out | apply pw_below_drewN | apply below_drew1)) (by exact HN.out) (by have := O163.out; have := O166.out; have := O169.out; have := O172.out; have := O175.out; have := O178.out; have := O181.out; have := O184.out; have := O187.out; have := O192.out; have := O205.out; omega) hb)
  replace F20 := Aside0.mk (show Kd.R (Kd.int .i64) 3 w18 w.heap.size (fun k_ => (lo167 ≤ k_ ∧ k_ < hi168) ∧ some k_ ≠ (.slice A23 x42.length c24 : Value).ownBlock) (.slice A17 x41.length c18) x41 from Kd.R_below (by (with_reducible repeat (first | apply Kd.R_drewN | apply Kd.R_drew)); exact F20.out) hb)
  replace HC21 := Aside0.mk (show Kd.C (Kd.int .i64) w18 A17 x41.length x41 from Kd.C_below (by (with_reducible repeat (first | apply Kd.C_drewN | apply Kd.C_drew)); exact HC21.out) hb)
  replace F26 := Aside0.mk (show Kd.R (Kd.int .i64) 3 w18 w.heap.size (fun k_ => (lo167 ≤ k_ ∧ k_ < hi168) ∧ some k_ ≠ (.slice A17 x41.length c18 : Value).ownBlock) (.slice A23 x42.length c24) x42 from Kd.R_below (by (with_reducible repeat (first | apply Kd.R_drewN | apply Kd.R_drew)); exact F26.out) hb)
  replace HC27 := Aside0.mk (show Kd.C (Kd.int .i64) w18 A23 x42.length x42 from Kd.C_below (by (with_reducible repeat (first | apply Kd.C_drewN | apply Kd.C_drew)); exact HC27.out) hb)
  replace F32 := Aside0.mk (show Kd.R k39 39 w18 w.heap.size (fun k_ => (lo167 ≤ k_ ∧ k_ < hi168) ∧ some k_ ≠ (.slice A35 x44.length c36 : Value).ownBlock) (.slice A29 x43.length c30) x43 from Kd.R_below (by (with_reducible repeat (first | apply Kd.R_drewN | apply Kd.R_drew)); exact F32.out) hb)
  replace HC33 := Aside0.mk (show Kd.C k39 w18 A29 x43.length x43 from Kd.C_below (by (with_reducible repeat (first | apply Kd.C_drewN | apply Kd.C_drew)); exact HC33.out) hb)
  replace F38 := Aside0.mk (show Kd.R k39 39 w18 w.heap.size (fun k_ => (lo167 ≤ k_ ∧ k_ < hi168) ∧ some k_ ≠ (.slice A29 x43.length c30 : Value).ownBlock) (.slice A35 x44.length c36) x44 from Kd.R_below (by (with_reducible repeat (first | apply Kd.R_drewN | apply Kd.R_drew)); exact F38.out) hb)
  replace HC39 := Aside0.mk (show Kd.C k39 w18 A35 x44.length x44 from Kd.C_below (by (with_reducible repeat (first | apply Kd.C_drewN | apply Kd.C_drew)); exact HC39.out) hb)
  replace F62 := Aside0.mk (show Kd.R (Kd.int .i64) 3 w18 w.heap.size (fun k_ => (lo179 ≤ k_ ∧ k_ < hi180) ∧ some k_ ≠ (.slice A65 x42.length c66 : Value).ownBlock) (.slice A59 x41.length c60) x102 from Kd.R_below (by (with_reducible repeat (first | apply Kd.R_drewN | apply Kd.R_drew)); exact F62.out) hb)
  replace HC63 := Aside0.mk (show Kd.C (Kd.int .i64) w18 A59 x102.length x102 from Kd.C_below (by (with_reducible repeat (first | apply Kd.C_drewN | apply Kd.C_drew)); exact HC63.out) hb)
  replace F68 := Aside0.mk (show Kd.R (Kd.int .i64) 3 w18 w.heap.size (fun k_ => (lo179 ≤ k_ ∧ k_ < hi180) ∧ some k_ ≠ (.slice A59 x41.length c60 : Value).ownBlock) (.slice A65 x42.length c66) x103 from Kd.R_below (by (with_reducible repeat (first | apply Kd.R_drewN | apply Kd.R_drew)); exact F68.out) hb)
  replace HC69 := Aside0.mk (show Kd.C (Kd.int .i64) w18 A65 x103.length x103 from Kd.C_below (by (with_reducible repeat (first | apply Kd.C_drewN | apply Kd.C_drew)); exact HC69.out) hb)
  replace F74 := Aside0.mk (show Kd.R k39 39 w18 w.heap.size (fun k_ => (lo179 ≤ k_ ∧ k_ < hi180) ∧ some k_ ≠ (.slice A77 x44.length c78 : Value).ownBlock) (.slice A71 x43.length c72) x104 from Kd.R_below (by (with_reducible repeat (first | apply Kd.R_drewN | apply Kd.R_drew)); exact F74.out) hb)
  replace HC75 := Aside0.mk (show Kd.C k39 w18 A71 x104.length x104 from Kd.C_below (by (with_reducible repeat (first | apply Kd.C_drewN | apply Kd.C_drew)); exact HC75.out) hb)
  replace F80 := Aside0.mk (show Kd.R k39 39 w18 w.heap.size (fun k_ => (lo179 ≤ k_ ∧ k_ < hi180) ∧ some k_ ≠ (.slice A71 x43.length c72 : Value).ownBlock) (.slice A77 x44.length c78) x105 from Kd.R_below (by (with_reducible repeat (first | apply Kd.R_drewN | apply Kd.R_drew)); exact F80.out) hb)
  replace HC81 := Aside0.mk (show Kd.C k39 w18 A77 x105.length x105 from Kd.C_below (by (with_reducible repeat (first | apply Kd.C_drewN | apply Kd.C_drew)); exact HC81.out) hb)
  replace F110 := Aside0.mk (show Kd.R (Kd.int .i64) 3 w18 w.heap.size (fun k_ => (lo203 ≤ k_ ∧ k_ < hi204) ∧ True) (.slice A107 x8.length c108) x8 from Kd.R_below (by (with_reducible repeat (first | apply Kd.R_drewN | apply Kd.R_drew)); exact F110.out) hb)
  replace HC111 := Aside0.mk (show Kd.C (Kd.int .i64) w18 A107 x8.length x8 from Kd.C_below (by (with_reducible repeat (first | apply Kd.C_drewN | apply Kd.C_drew)); exact HC111.out) hb)
  replace BK5 := Aside0.mk (show w18.heap[gb5]? = some (.cells #[.slice A17 x41.length c18, .slice A23 x42.length c24, .slice A29 x43.length c30, .slice A35 x44.length c36, .int .i64 x45] 55 (0, 0)) from blk_below (by (with_reducible repeat (first | refine blk_drewN ?_ _ | refine blk_drew ?_)); exact BK5.out) hb)
  clear k5_0 k5_1 k5_2 k5_3 k5_4
  have k5_0 : w18.cell? ⟨gb5, 0, none⟩ = some (.slice A17 x41.length c18) := (blk_cell BK5.out 0).trans rfl
  have k5_1 : w18.cell? ⟨gb5, 1, none⟩ = some (.slice A23 x42.length c24) := (blk_cell BK5.out 1).trans rfl
  have k5_2 : w18.cell? ⟨gb5, 2, none⟩ = some (.slice A29 x43.length c30) := (blk_cell BK5.out 2).trans rfl
  have k5_3 : w18.cell? ⟨gb5, 3, none⟩ = some (.slice A35 x44.length c36) := (blk_cell BK5.out 3).trans rfl
  have k5_4 : w18.cell? ⟨gb5, 4, none⟩ = some (.int .i64 x45) := (blk_cell BK5.out 4).trans rfl
  replace BK9 := Aside0.mk (show w18.heap[gb9]? = some (.cells #[.slice A59 x41.length c60, .slice A65 x42.length c66, .slice A71 x43.length c72, .slice A77 x44.length c78, .int .i64 x45] 55 (0, 0)) from blk_below (by (with_reducible repeat (first | refine blk_drewN ?_ _ | refine blk_drew ?_)); exact BK9.out) hb)
  clear k9_0 k9_1 k9_2 k9_3 k9_4
  have k9_0 : w18.cell? ⟨gb9, 0, none⟩ = some (.slice A59 x41.length c60) := (blk_cell BK9.out 0).trans rfl
  have k9_1 : w18.cell? ⟨gb9, 1, none⟩ = some (.slice A65 x42.length c66) := (blk_cell BK9.out 1).trans rfl
  have k9_2 : w18.cell? ⟨gb9, 2, none⟩ = some (.slice A71 x43.length c72) := (blk_cell BK9.out 2).trans rfl
  have k9_3 : w18.cell? ⟨gb9, 3, none⟩ = some (.slice A77 x44.length c78) := (blk_cell BK9.out 3).trans rfl
  have k9_4 : w18.cell? ⟨gb9, 4, none⟩ = some (.int .i64 x45) := (blk_cell BK9.out 4).trans rfl
  obtain ⟨lo206, hi207, ho, hg⟩ := fresh_pts (N := hi204) hb (by exact HN.out)
  have O208 := Aside0.mk (show hi204 ≤ lo206 ∧ lo206 ≤ hi207 from ⟨ho.1, ho.2.1⟩)
  have hF117b := R_in hF117 hg (B := w.heap.size) (by have := O163.out; have := O166.out; have := O169.out; have := O172.out; have := O175.out; have := O178.out; have := O181.out; have := O184.out; have := O187.out; have := O192.out; have := O205.out; have := O208.out; omega)
  obtain ⟨A114, c115, rfl, hle, hC⟩ := Kd.R_reads hF117b
  have HC118 := Aside0.mk hC
  have HL119 := Aside0.mk hle
  clear hle hC
  have F117 := Aside0.mk (show Kd.R (Kd.int .i64) 3 w18 w.heap.size (fun k_ => (lo206 ≤ k_ ∧ k_ < hi207) ∧ True) (.slice A114 x16.length c115) x16 from hF117b)
  clear hF117 hF117b
  replace HN := Aside0.mk (show hi207 ≤ w18.heap.size from ho.2.2)
  clear ho hg
  replace HB := HB2
  clear HB2 hb
  go_wp2_with fail
  go_at_call 45
  refine (impl_NewJob.calls k A107 c108 x8 A114 c115 x16 x41 x42 x43 x44 x45 x46 _ (by (with_reducible repeat (first | apply Kd.C_drewN | apply Kd.C_drew)); exact HC111.out) HL112.out (by (with_reducible repeat (first | apply Kd.C_drewN | apply Kd.C_drew)); exact HC118.out) HL119.out H151.out).mono ?_
  rintro e w19 ⟨v122, v128, v134, v140, rfl, hF123, hF129, hF135, hF141, hb⟩
  have HB2 := Aside0.mk (below_next (N := hi207) (by repeat (first | exact HB.out | apply pw_below_drewN | apply below_drew1)) (by exact HN.out) (by have := O163.out; have := O166.out; have := O169.out; have := O172.out; have := O175.out; have := O178.out; have := O181.out; have := O184.out; have := O187.out; have := O192.out; have := O205.out; have := O208.out; omega) hb)
  replace F20 := Aside0.mk (show Kd.R (Kd.int .i64) 3 w19 w.heap.size (fun k_ => (lo167 ≤ k_ ∧ k_ < hi168) ∧ some k_ ≠ (.slice A23 x42.length c24 : Value).ownBlock) (.slice A17 x41.length c18) x41 from Kd.R_below (by (with_reducible repeat (first | apply Kd.R_drewN | apply Kd.R_drew)); exact F20.out) hb)
  replace HC21 := Aside0.mk (show Kd.C (Kd.int .i64) w19 A17 x41.length x41 from Kd.C_below (by (with_reducible repeat (first | apply Kd.C_drewN | apply Kd.C_drew)); exact HC21.out) hb)
  replace F26 := Aside0.mk (show Kd.R (Kd.int .i64) 3 w19 w.heap.size (fun k_ => (lo167 ≤ k_ ∧ k_ < hi168) ∧ some k_ ≠ (.slice A17 x41.length c18 : Value).ownBlock) (.slice A23 x42.length c24) x42 from Kd.R_below (by (with_reducible repeat (first | apply Kd.R_drewN | apply Kd.R_drew)); exact F26.out) hb)
  replace HC27 := Aside0.mk (show Kd.C (Kd.int .i64) w19 A23 x42.length x42 from Kd.C_below (by (with_reducible repeat (first | apply Kd.C_drewN | apply Kd.C_drew)); exact HC27.out) hb)
  replace F32 := Aside0.mk (show Kd.R k39 39 w19 w.heap.size (fun k_ => (lo167 ≤ k_ ∧ k_ < hi168) ∧ some k_ ≠ (.slice A35 x44.length c36 : Value).ownBlock) (.slice A29 x43.length c30) x43 from Kd.R_below (by (with_reducible repeat (first | apply Kd.R_drewN | apply Kd.R_drew)); exact F32.out) hb)
  replace HC33 := Aside0.mk (show Kd.C k39 w19 A29 x43.length x43 from Kd.C_below (by (with_reducible repeat (first | apply Kd.C_drewN | apply Kd.C_drew)); exact HC33.out) hb)
  replace F38 := Aside0.mk (show Kd.R k39 39 w19 w.heap.size (fun k_ => (lo167 ≤ k_ ∧ k_ < hi168) ∧ some k_ ≠ (.slice A29 x43.length c30 : Value).ownBlock) (.slice A35 x44.length c36) x44 from Kd.R_below (by (with_reducible repeat (first | apply Kd.R_drewN | apply Kd.R_drew)); exact F38.out) hb)
  replace HC39 := Aside0.mk (show Kd.C k39 w19 A35 x44.length x44 from Kd.C_below (by (with_reducible repeat (first | apply Kd.C_drewN | apply Kd.C_drew)); exact HC39.out) hb)
  replace F62 := Aside0.mk (show Kd.R (Kd.int .i64) 3 w19 w.heap.size (fun k_ => (lo179 ≤ k_ ∧ k_ < hi180) ∧ some k_ ≠ (.slice A65 x42.length c66 : Value).ownBlock) (.slice A59 x41.length c60) x102 from Kd.R_below (by (with_reducible repeat (first | apply Kd.R_drewN | apply Kd.R_drew)); exact F62.out) hb)
  replace HC63 := Aside0.mk (show Kd.C (Kd.int .i64) w19 A59 x102.length x102 from Kd.C_below (by (with_reducible repeat (first | apply Kd.C_drewN | apply Kd.C_drew)); exact HC63.out) hb)
  replace F68 := Aside0.mk (show Kd.R (Kd.int .i64) 3 w19 w.heap.size (fun k_ => (lo179 ≤ k_ ∧ k_ < hi180) ∧ some k_ ≠ (.slice A59 x41.length c60 : Value).ownBlock) (.slice A65 x42.length c66) x103 from Kd.R_below (by (with_reducible repeat (first | apply Kd.R_drewN | apply Kd.R_drew)); exact F68.out) hb)
  replace HC69 := Aside0.mk (show Kd.C (Kd.int .i64) w19 A65 x103.length x103 from Kd.C_below (by (with_reducible repeat (first | apply Kd.C_drewN | apply Kd.C_drew)); exact HC69.out) hb)
  replace F74 := Aside0.mk (show Kd.R k39 39 w19 w.heap.size (fun k_ => (lo179 ≤ k_ ∧ k_ < hi180) ∧ some k_ ≠ (.slice A77 x44.length c78 : Value).ownBlock) (.slice A71 x43.length c72) x104 from Kd.R_below (by (with_reducible repeat (first | apply Kd.R_drewN | apply Kd.R_drew)); exact F74.out) hb)
  replace HC75 := Aside0.mk (show Kd.C k39 w19 A71 x104.length x104 from Kd.C_below (by (with_reducible repeat (first | apply Kd.C_drewN | apply Kd.C_drew)); exact HC75.out) hb)
  replace F80 := Aside0.mk (show Kd.R k39 39 w19 w.heap.size (fun k_ => (lo179 ≤ k_ ∧ k_ < hi180) ∧ some k_ ≠ (.slice A71 x43.length c72 : Value).ownBlock) (.slice A77 x44.length c78) x105 from Kd.R_below (by (with_reducible repeat (first | apply Kd.R_drewN | apply Kd.R_drew)); exact F80.out) hb)
  replace HC81 := Aside0.mk (show Kd.C k39 w19 A77 x105.length x105 from Kd.C_below (by (with_reducible repeat (first | apply Kd.C_drewN | apply Kd.C_drew)); exact HC81.out) hb)
  replace F110 := Aside0.mk (show Kd.R (Kd.int .i64) 3 w19 w.heap.size (fun k_ => (lo203 ≤ k_ ∧ k_ < hi204) ∧ True) (.slice A107 x8.length c108) x8 from Kd.R_below (by (with_reducible repeat (first | apply Kd.R_drewN | apply Kd.R_drew)); exact F110.out) hb)
  replace HC111 := Aside0.mk (show Kd.C (Kd.int .i64) w19 A107 x8.length x8 from Kd.C_below (by (with_reducible repeat (first | apply Kd.C_drewN | apply Kd.C_drew)); exact HC111.out) hb)
  replace F117 := Aside0.mk (show Kd.R (Kd.int .i64) 3 w19 w.heap.size (fun k_ => (lo206 ≤ k_ ∧ k_ < hi207) ∧ True) (.slice A114 x16.length c115) x16 from Kd.R_below (by (with_reducible repeat (first | apply Kd.R_drewN | apply Kd.R_drew)); exact F117.out) hb)
  replace HC118 := Aside0.mk (show Kd.C (Kd.int .i64) w19 A114 x16.length x16 from Kd.C_below (by (with_reducible repeat (first | apply Kd.C_drewN | apply Kd.C_drew)); exact HC118.out) hb)
  replace BK5 := Aside0.mk (show w19.heap[gb5]? = some (.cells #[.slice A17 x41.length c18, .slice A23 x42.length c24, .slice A29 x43.length c30, .slice A35 x44.length c36, .int .i64 x45] 55 (0, 0)) from blk_below (by (with_reducible repeat (first | refine blk_drewN ?_ _ | refine blk_drew ?_)); exact BK5.out) hb)
  clear k5_0 k5_1 k5_2 k5_3 k5_4
  have k5_0 : w19.cell? ⟨gb5, 0, none⟩ = some (.slice A17 x41.length c18) := (blk_cell BK5.out 0).trans rfl
  have k5_1 : w19.cell? ⟨gb5, 1, none⟩ = some (.slice A23 x42.length c24) := (blk_cell BK5.out 1).trans rfl
  have k5_2 : w19.cell? ⟨gb5, 2, none⟩ = some (.slice A29 x43.length c30) := (blk_cell BK5.out 2).trans rfl
  have k5_3 : w19.cell? ⟨gb5, 3, none⟩ = some (.slice A35 x44.length c36) := (blk_cell BK5.out 3).trans rfl
  have k5_4 : w19.cell? ⟨gb5, 4, none⟩ = some (.int .i64 x45) := (blk_cell BK5.out 4).trans rfl
  replace BK9 := Aside0.mk (show w19.heap[gb9]? = some (.cells #[.slice A59 x41.length c60, .slice A65 x42.length c66, .slice A71 x43.length c72, .slice A77 x44.length c78, .int .i64 x45] 55 (0, 0)) from blk_below (by (with_reducible repeat (first | refine blk_drewN ?_ _ | refine blk_drew ?_)); exact BK9.out) hb)
  clear k9_0 k9_1 k9_2 k9_3 k9_4
  have k9_0 : w19.cell? ⟨gb9, 0, none⟩ = some (.slice A59 x41.length c60) := (blk_cell BK9.out 0).trans rfl
  have k9_1 : w19.cell? ⟨gb9, 1, none⟩ = some (.slice A65 x42.length c66) := (blk_cell BK9.out 1).trans rfl
  have k9_2 : w19.cell? ⟨gb9, 2, none⟩ = some (.slice A71 x43.length c72) := (blk_cell BK9.out 2).trans rfl
  have k9_3 : w19.cell? ⟨gb9, 3, none⟩ = some (.slice A77 x44.length c78) := (blk_cell BK9.out 3).trans rfl
  have k9_4 : w19.cell? ⟨gb9, 4, none⟩ = some (.int .i64 x45) := (blk_cell BK9.out 4).trans rfl
  obtain ⟨lo209, hi210, ho, hg⟩ := fresh_pts (N := hi207) hb (by exact HN.out)
  have O211 := Aside0.mk (show hi207 ≤ lo209 ∧ lo209 ≤ hi210 from ⟨ho.1, ho.2.1⟩)
  have hF123b := R_in hF123 hg (B := w.heap.size) (by have := O163.out; have := O166.out; have := O169.out; have := O172.out; have := O175.out; have := O178.out; have := O181.out; have := O184.out; have := O187.out; have := O192.out; have := O205.out; have := O208.out; have := O211.out; omega)
  have hF129b := R_in hF129 hg (B := w.heap.size) (by have := O163.out; have := O166.out; have := O169.out; have := O172.out; have := O175.out; have := O178.out; have := O181.out; have := O184.out; have := O187.out; have := O192.out; have := O205.out; have := O208.out; have := O211.out; omega)
  have hF135b := R_in hF135 hg (B := w.heap.size) (by have := O163.out; have := O166.out; have := O169.out; have := O172.out; have := O175.out; have := O178.out; have := O181.out; have := O184.out; have := O187.out; have := O192.out; have := O205.out; have := O208.out; have := O211.out; omega)
  have hF141b := R_in hF141 hg (B := w.heap.size) (by have := O163.out; have := O166.out; have := O169.out; have := O172.out; have := O175.out; have := O178.out; have := O181.out; have := O184.out; have := O187.out; have := O192.out; have := O205.out; have := O208.out; have := O211.out; omega)
  obtain ⟨A120, c121, rfl, hle, hC⟩ := Kd.R_reads hF123b
  have HC124 := Aside0.mk hC
  have HL125 := Aside0.mk hle
  clear hle hC
  obtain ⟨A126, c127, rfl, hle, hC⟩ := Kd.R_reads hF129b
  have HC130 := Aside0.mk hC
  have HL131 := Aside0.mk hle
  clear hle hC
  obtain ⟨A132, c133, rfl, hle, hC⟩ := Kd.R_reads hF135b
  have HC136 := Aside0.mk hC
  have HL137 := Aside0.mk hle
  clear hle hC
  obtain ⟨A138, c139, rfl, hle, hC⟩ := Kd.R_reads hF141b
  have HC142 := Aside0.mk hC
  have HL143 := Aside0.mk hle
  clear hle hC
  have F123 := Aside0.mk (show Kd.R (Kd.int .i64) 3 w19 w.heap.size (fun k_ => (lo209 ≤ k_ ∧ k_ < hi210) ∧ some k_ ≠ (.slice A126 x42.length c127 : Value).ownBlock) (.slice A120 x41.length c121) x41 from hF123b)
  clear hF123 hF123b
  have F129 := Aside0.mk (show Kd.R (Kd.int .i64) 3 w19 w.heap.size (fun k_ => (lo209 ≤ k_ ∧ k_ < hi210) ∧ some k_ ≠ (.slice A120 x41.length c121 : Value).ownBlock) (.slice A126 x42.length c127) x42 from hF129b)
  clear hF129 hF129b
  have F135 := Aside0.mk (show Kd.R k39 39 w19 w.heap.size (fun k_ => (lo209 ≤ k_ ∧ k_ < hi210) ∧ some k_ ≠ (.slice A138 x44.length c139 : Value).ownBlock) (.slice A132 x43.length c133) x43 from hF135b)
  clear hF135 hF135b
  have F141 := Aside0.mk (show Kd.R k39 39 w19 w.heap.size (fun k_ => (lo209 ≤ k_ ∧ k_ < hi210) ∧ some k_ ≠ (.slice A132 x43.length c133 : Value).ownBlock) (.slice A138 x44.length c139) x44 from hF141b)
  clear hF141 hF141b
  replace HN := Aside0.mk (show hi210 ≤ w19.heap.size from ho.2.2)
  clear ho hg
  replace HB := HB2
  clear HB2 hb
  go_wp2_with ((with_reducible refine gate_dst (N := 14) rfl ?_); refine box_event ?hg (N := 14) ?hd (cs := #[.slice none 0 0, .slice none 0 0, .slice none 0 0, .slice none 0 0, .int .i64 0]) (t := 55) ?hr ?_; (case hd => rfl); (case hg => rfl); (case hr => first | (go_simp; done) | (go_simp; rfl)); intro gb14 hgb wb hbox hb0; have hz0 : wb.cell? ⟨gb14, 0, none⟩ = some (.slice none 0 0) := (blk_cell hbox 0).trans rfl; have hf0 := blk_frozen hbox 0; have hz1 : wb.cell? ⟨gb14, 1, none⟩ = some (.slice none 0 0) := (blk_cell hbox 1).trans rfl; have hf1 := blk_frozen hbox 1; have hz2 : wb.cell? ⟨gb14, 2, none⟩ = some (.slice none 0 0) := (blk_cell hbox 2).trans rfl; have hf2 := blk_frozen hbox 2; have hz3 : wb.cell? ⟨gb14, 3, none⟩ = some (.slice none 0 0) := (blk_cell hbox 3).trans rfl; have hf3 := blk_frozen hbox 3; have hz4 : wb.cell? ⟨gb14, 4, none⟩ = some (.int .i64 0) := (blk_cell hbox 4).trans rfl; have hf4 := blk_frozen hbox 4; have hx5_ := blk_below (by (with_reducible repeat (first | refine blk_drewN ?_ _ | refine blk_drew ?_)); exact BK5.out) hb0; have hw5_0 : wb.cell? ⟨gb5, 0, none⟩ = some (.slice A17 x41.length c18) := (blk_cell hx5_ 0).trans rfl; have hw5_1 : wb.cell? ⟨gb5, 1, none⟩ = some (.slice A23 x42.length c24) := (blk_cell hx5_ 1).trans rfl; have hw5_2 : wb.cell? ⟨gb5, 2, none⟩ = some (.slice A29 x43.length c30) := (blk_cell hx5_ 2).trans rfl; have hw5_3 : wb.cell? ⟨gb5, 3, none⟩ = some (.slice A35 x44.length c36) := (blk_cell hx5_ 3).trans rfl; have hw5_4 : wb.cell? ⟨gb5, 4, none⟩ = some (.int .i64 x45) := (blk_cell hx5_ 4).trans rfl; clear hx5_; have hne5_ : gb5 ≠ gb14 := Nat.ne_of_lt (Nat.lt_of_lt_of_eq (blk_lt (by (with_reducible repeat (first | refine blk_drewN ?_ _ | refine blk_drew ?_)); exact BK5.out)) hgb.symm); have hnf5_ := Ne.symm hne5_; have hx9_ := blk_below (by (with_reducible repeat (first | refine blk_drewN ?_ _ | refine blk_drew ?_)); exact BK9.out) hb0; have hw9_0 : wb.cell? ⟨gb9, 0, none⟩ = some (.slice A59 x41.length c60) := (blk_cell hx9_ 0).trans rfl; have hw9_1 : wb.cell? ⟨gb9, 1, none⟩ = some (.slice A65 x42.length c66) := (blk_cell hx9_ 1).trans rfl; have hw9_2 : wb.cell? ⟨gb9, 2, none⟩ = some (.slice A71 x43.length c72) := (blk_cell hx9_ 2).trans rfl; have hw9_3 : wb.cell? ⟨gb9, 3, none⟩ = some (.slice A77 x44.length c78) := (blk_cell hx9_ 3).trans rfl; have hw9_4 : wb.cell? ⟨gb9, 4, none⟩ = some (.int .i64 x45) := (blk_cell hx9_ 4).trans rfl; clear hx9_; have hne9_ : gb9 ≠ gb14 := Nat.ne_of_lt (Nat.lt_of_lt_of_eq (blk_lt (by (with_reducible repeat (first | refine blk_drewN ?_ _ | refine blk_drew ?_)); exact BK9.out)) hgb.symm); have hnf9_ := Ne.symm hne9_; have hb := below_set (g := gb14) (j := 4) (v := .int .i64 x45) (below_set (g := gb14) (j := 3) (v := .slice A138 x44.length c139) (below_set (g := gb14) (j := 2) (v := .slice A132 x43.length c133) (below_set (g := gb14) (j := 1) (v := .slice A126 x42.length c127) (below_set (g := gb14) (j := 0) (v := .slice A120 x41.length c121) (hb0) (Nat.le_of_eq hgb.symm)) (Nat.le_of_eq hgb.symm)) (Nat.le_of_eq hgb.symm)) (Nat.le_of_eq hgb.symm)) (Nat.le_of_eq hgb.symm); have BK14 := Aside0.mk (blk_set (blk_set (blk_set (blk_set (blk_set (hbox) 0 (.slice A120 x41.length c121)) 1 (.slice A126 x42.length c127)) 2 (.slice A132 x43.length c133)) 3 (.slice A138 x44.length c139)) 4 (.int .i64 x45)); have HGB := Aside0.mk hgb; clear hgb hbox hb0)
  generalize (((((wb).setCell ⟨gb14, 0, none⟩ (.slice A120 x41.length c121)).setCell ⟨gb14, 1, none⟩ (.slice A126 x42.length c127)).setCell ⟨gb14, 2, none⟩ (.slice A132 x43.length c133)).setCell ⟨gb14, 3, none⟩ (.slice A138 x44.length c139)).setCell ⟨gb14, 4, none⟩ (.int .i64 x45) = w20 at hb BK14 ⊢
  clear hz0 hf0 hz1 hf1 hz2 hf2 hz3 hf3 hz4 hf4 hne5_ hnf5_ hw5_0 hw5_1 hw5_2 hw5_3 hw5_4 hne9_ hnf9_ hw9_0 hw9_1 hw9_2 hw9_3 hw9_4
  replace BK14 := Aside0.mk (show w20.heap[gb14]? = some (.cells #[.slice A120 x41.length c121, .slice A126 x42.length c127, .slice A132 x43.length c133, .slice A138 x44.length c139, .int .i64 x45] 55 (0, 0)) from BK14.out)
  have HB2 := Aside0.mk (below_next (N := hi210) (by repeat (first | exact HB.out | apply pw_below_drewN | apply below_drew1)) (by exact HN.out) (by have := O163.out; have := O166.out; have := O169.out; have := O172.out; have := O175.out; have := O178.out; have := O181.out; have := O184.out; have := O187.out; have := O192.out; have := O205.out; have := O208.out; have := O211.out; omega) hb)
  replace F20 := Aside0.mk (show Kd.R (Kd.int .i64) 3 w20 w.heap.size (fun k_ => (lo167 ≤ k_ ∧ k_ < hi168) ∧ some k_ ≠ (.slice A23 x42.length c24 : Value).ownBlock) (.slice A17 x41.length c18) x41 from Kd.R_below (by (with_reducible repeat (first | apply Kd.R_drewN | apply Kd.R_drew)); exact F20.out) hb)
  replace HC21 := Aside0.mk (show Kd.C (Kd.int .i64) w20 A17 x41.length x41 from Kd.C_below (by (with_reducible repeat (first | apply Kd.C_drewN | apply Kd.C_drew)); exact HC21.out) hb)
  replace F26 := Aside0.mk (show Kd.R (Kd.int .i64) 3 w20 w.heap.size (fun k_ => (lo167 ≤ k_ ∧ k_ < hi168) ∧ some k_ ≠ (.slice A17 x41.length c18 : Value).ownBlock) (.slice A23 x42.length c24) x42 from Kd.R_below (by (with_reducible repeat (first | apply Kd.R_drewN | apply Kd.R_drew)); exact F26.out) hb)
  replace HC27 := Aside0.mk (show Kd.C (Kd.int .i64) w20 A23 x42.length x42 from Kd.C_below (by (with_reducible repeat (first | apply Kd.C_drewN | apply Kd.C_drew)); exact HC27.out) hb)
  replace F32 := Aside0.mk (show Kd.R k39 39 w20 w.heap.size (fun k_ => (lo167 ≤ k_ ∧ k_ < hi168) ∧ some k_ ≠ (.slice A35 x44.length c36 : Value).ownBlock) (.slice A29 x43.length c30) x43 from Kd.R_below (by (with_reducible repeat (first | apply Kd.R_drewN | apply Kd.R_drew)); exact F32.out) hb)
  replace HC33 := Aside0.mk (show Kd.C k39 w20 A29 x43.length x43 from Kd.C_below (by (with_reducible repeat (first | apply Kd.C_drewN | apply Kd.C_drew)); exact HC33.out) hb)
  replace F38 := Aside0.mk (show Kd.R k39 39 w20 w.heap.size (fun k_ => (lo167 ≤ k_ ∧ k_ < hi168) ∧ some k_ ≠ (.slice A29 x43.length c30 : Value).ownBlock) (.slice A35 x44.length c36) x44 from Kd.R_below (by (with_reducible repeat (first | apply Kd.R_drewN | apply Kd.R_drew)); exact F38.out) hb)
  replace HC39 := Aside0.mk (show Kd.C k39 w20 A35 x44.length x44 from Kd.C_below (by (with_reducible repeat (first | apply Kd.C_drewN | apply Kd.C_drew)); exact HC39.out) hb)
  replace F62 := Aside0.mk (show Kd.R (Kd.int .i64) 3 w20 w.heap.size (fun k_ => (lo179 ≤ k_ ∧ k_ < hi180) ∧ some k_ ≠ (.slice A65 x42.length c66 : Value).ownBlock) (.slice A59 x41.length c60) x102 from Kd.R_below (by (with_reducible repeat (first | apply Kd.R_drewN | apply Kd.R_drew)); exact F62.out) hb)
  replace HC63 := Aside0.mk (show Kd.C (Kd.int .i64) w20 A59 x102.length x102 from Kd.C_below (by (with_reducible repeat (first | apply Kd.C_drewN | apply Kd.C_drew)); exact HC63.out) hb)
  replace F68 := Aside0.mk (show Kd.R (Kd.int .i64) 3 w20 w.heap.size (fun k_ => (lo179 ≤ k_ ∧ k_ < hi180) ∧ some k_ ≠ (.slice A59 x41.length c60 : Value).ownBlock) (.slice A65 x42.length c66) x103 from Kd.R_below (by (with_reducible repeat (first | apply Kd.R_drewN | apply Kd.R_drew)); exact F68.out) hb)
  replace HC69 := Aside0.mk (show Kd.C (Kd.int .i64) w20 A65 x103.length x103 from Kd.C_below (by (with_reducible repeat (first | apply Kd.C_drewN | apply Kd.C_drew)); exact HC69.out) hb)
  replace F74 := Aside0.mk (show Kd.R k39 39 w20 w.heap.size (fun k_ => (lo179 ≤ k_ ∧ k_ < hi180) ∧ some k_ ≠ (.slice A77 x44.length c78 : Value).ownBlock) (.slice A71 x43.length c72) x104 from Kd.R_below (by (with_reducible repeat (first | apply Kd.R_drewN | apply Kd.R_drew)); exact F74.out) hb)
  replace HC75 := Aside0.mk (show Kd.C k39 w20 A71 x104.length x104 from Kd.C_below (by (with_reducible repeat (first | apply Kd.C_drewN | apply Kd.C_drew)); exact HC75.out) hb)
  replace F80 := Aside0.mk (show Kd.R k39 39 w20 w.heap.size (fun k_ => (lo179 ≤ k_ ∧ k_ < hi180) ∧ some k_ ≠ (.slice A71 x43.length c72 : Value).ownBlock) (.slice A77 x44.length c78) x105 from Kd.R_below (by (with_reducible repeat (first | apply Kd.R_drewN | apply Kd.R_drew)); exact F80.out) hb)
  replace HC81 := Aside0.mk (show Kd.C k39 w20 A77 x105.length x105 from Kd.C_below (by (with_reducible repeat (first | apply Kd.C_drewN | apply Kd.C_drew)); exact HC81.out) hb)
  replace F110 := Aside0.mk (show Kd.R (Kd.int .i64) 3 w20 w.heap.size (fun k_ => (lo203 ≤ k_ ∧ k_ < hi204) ∧ True) (.slice A107 x8.length c108) x8 from Kd.R_below (by (with_reducible repeat (first | apply Kd.R_drewN | apply Kd.R_drew)); exact F110.out) hb)
  replace HC111 := Aside0.mk (show Kd.C (Kd.int .i64) w20 A107 x8.length x8 from Kd.C_below (by (with_reducible repeat (first | apply Kd.C_drewN | apply Kd.C_drew)); exact HC111.out) hb)
  replace F117 := Aside0.mk (show Kd.R (Kd.int .i64) 3 w20 w.heap.size (fun k_ => (lo206 ≤ k_ ∧ k_ < hi207) ∧ True) (.slice A114 x16.length c115) x16 from Kd.R_below (by (with_reducible repeat (first | apply Kd.R_drewN | apply Kd.R_drew)); exact F117.out) hb)
  replace HC118 := Aside0.mk (show Kd.C (Kd.int .i64) w20 A114 x16.length x16 from Kd.C_below (by (with_reducible repeat (first | apply Kd.C_drewN | apply Kd.C_drew)); exact HC118.out) hb)
  replace F123 := Aside0.mk (show Kd.R (Kd.int .i64) 3 w20 w.heap.size (fun k_ => (lo209 ≤ k_ ∧ k_ < hi210) ∧ some k_ ≠ (.slice A126 x42.length c127 : Value).ownBlock) (.slice A120 x41.length c121) x41 from Kd.R_below (by (with_reducible repeat (first | apply Kd.R_drewN | apply Kd.R_drew)); exact F123.out) hb)
  replace HC124 := Aside0.mk (show Kd.C (Kd.int .i64) w20 A120 x41.length x41 from Kd.C_below (by (with_reducible repeat (first | apply Kd.C_drewN | apply Kd.C_drew)); exact HC124.out) hb)
  replace F129 := Aside0.mk (show Kd.R (Kd.int .i64) 3 w20 w.heap.size (fun k_ => (lo209 ≤ k_ ∧ k_ < hi210) ∧ some k_ ≠ (.slice A120 x41.length c121 : Value).ownBlock) (.slice A126 x42.length c127) x42 from Kd.R_below (by (with_reducible repeat (first | apply Kd.R_drewN | apply Kd.R_drew)); exact F129.out) hb)
  replace HC130 := Aside0.mk (show Kd.C (Kd.int .i64) w20 A126 x42.length x42 from Kd.C_below (by (with_reducible repeat (first | apply Kd.C_drewN | apply Kd.C_drew)); exact HC130.out) hb)
  replace F135 := Aside0.mk (show Kd.R k39 39 w20 w.heap.size (fun k_ => (lo209 ≤ k_ ∧ k_ < hi210) ∧ some k_ ≠ (.slice A138 x44.length c139 : Value).ownBlock) (.slice A132 x43.length c133) x43 from Kd.R_below (by (with_reducible repeat (first | apply Kd.R_drewN | apply Kd.R_drew)); exact F135.out) hb)
  replace HC136 := Aside0.mk (show Kd.C k39 w20 A132 x43.length x43 from Kd.C_below (by (with_reducible repeat (first | apply Kd.C_drewN | apply Kd.C_drew)); exact HC136.out) hb)
  replace F141 := Aside0.mk (show Kd.R k39 39 w20 w.heap.size (fun k_ => (lo209 ≤ k_ ∧ k_ < hi210) ∧ some k_ ≠ (.slice A132 x43.length c133 : Value).ownBlock) (.slice A138 x44.length c139) x44 from Kd.R_below (by (with_reducible repeat (first | apply Kd.R_drewN | apply Kd.R_drew)); exact F141.out) hb)
  replace HC142 := Aside0.mk (show Kd.C k39 w20 A138 x44.length x44 from Kd.C_below (by (with_reducible repeat (first | apply Kd.C_drewN | apply Kd.C_drew)); exact HC142.out) hb)
  replace BK5 := Aside0.mk (show w20.heap[gb5]? = some (.cells #[.slice A17 x41.length c18, .slice A23 x42.length c24, .slice A29 x43.length c30, .slice A35 x44.length c36, .int .i64 x45] 55 (0, 0)) from blk_below (by (with_reducible repeat (first | refine blk_drewN ?_ _ | refine blk_drew ?_)); exact BK5.out) hb)
  clear k5_0 k5_1 k5_2 k5_3 k5_4
  have k5_0 : w20.cell? ⟨gb5, 0, none⟩ = some (.slice A17 x41.length c18) := (blk_cell BK5.out 0).trans rfl
  have k5_1 : w20.cell? ⟨gb5, 1, none⟩ = some (.slice A23 x42.length c24) := (blk_cell BK5.out 1).trans rfl
  have k5_2 : w20.cell? ⟨gb5, 2, none⟩ = some (.slice A29 x43.length c30) := (blk_cell BK5.out 2).trans rfl
  have k5_3 : w20.cell? ⟨gb5, 3, none⟩ = some (.slice A35 x44.length c36) := (blk_cell BK5.out 3).trans rfl
  have k5_4 : w20.cell? ⟨gb5, 4, none⟩ = some (.int .i64 x45) := (blk_cell BK5.out 4).trans rfl
  replace BK9 := Aside0.mk (show w20.heap[gb9]? = some (.cells #[.slice A59 x41.length c60, .slice A65 x42.length c66, .slice A71 x43.length c72, .slice A77 x44.length c78, .int .i64 x45] 55 (0, 0)) from blk_below (by (with_reducible repeat (first | refine blk_drewN ?_ _ | refine blk_drew ?_)); exact BK9.out) hb)
  clear k9_0 k9_1 k9_2 k9_3 k9_4
  have k9_0 : w20.cell? ⟨gb9, 0, none⟩ = some (.slice A59 x41.length c60) := (blk_cell BK9.out 0).trans rfl
  have k9_1 : w20.cell? ⟨gb9, 1, none⟩ = some (.slice A65 x42.length c66) := (blk_cell BK9.out 1).trans rfl
  have k9_2 : w20.cell? ⟨gb9, 2, none⟩ = some (.slice A71 x43.length c72) := (blk_cell BK9.out 2).trans rfl
  have k9_3 : w20.cell? ⟨gb9, 3, none⟩ = some (.slice A77 x44.length c78) := (blk_cell BK9.out 3).trans rfl
  have k9_4 : w20.cell? ⟨gb9, 4, none⟩ = some (.int .i64 x45) := (blk_cell BK9.out 4).trans rfl
  obtain ⟨lo212, hi213, ho, hg⟩ := fresh_pts (N := hi210) hb (by exact HN.out)
  have O214 := Aside0.mk (show hi210 ≤ lo212 ∧ lo212 ≤ hi213 from ⟨ho.1, ho.2.1⟩)
  have EG14 := Aside0.mk (show gb14 = lo212 ∧ gb14 < hi213 from ⟨HGB.out.trans hg.1.symm, by rw [hg.2]; exact blk_lt BK14.out⟩)
  replace HN := Aside0.mk (show hi213 ≤ w20.heap.size from ho.2.2)
  clear ho hg HGB
  replace HB := HB2
  clear HB2 hb
  have k14_0 : w20.cell? ⟨gb14, 0, none⟩ = some (.slice A120 x41.length c121) := (blk_cell BK14.out 0).trans rfl
  have k14_1 : w20.cell? ⟨gb14, 1, none⟩ = some (.slice A126 x42.length c127) := (blk_cell BK14.out 1).trans rfl
  have k14_2 : w20.cell? ⟨gb14, 2, none⟩ = some (.slice A132 x43.length c133) := (blk_cell BK14.out 2).trans rfl
  have k14_3 : w20.cell? ⟨gb14, 3, none⟩ = some (.slice A138 x44.length c139) := (blk_cell BK14.out 3).trans rfl
  have k14_4 : w20.cell? ⟨gb14, 4, none⟩ = some (.int .i64 x45) := (blk_cell BK14.out 4).trans rfl
  clear F110 HC111
  clear F117 HC118
  go_wp2_with fail
  go_at_call 43
  refine (laws_eqJob.calls k A120 c121 x41 A126 c127 x42 A132 c133 x43 A138 c139 x44 x45 A17 c18 x41 A23 c24 x42 A29 c30 x43 A35 c36 x44 x45 true _ (by (with_reducible repeat (first | apply Kd.C_drewN | apply Kd.C_drew)); exact HC124.out) HL125.out (by (with_reducible repeat (first | apply Kd.C_drewN | apply Kd.C_drew)); exact HC130.out) HL131.out (by (with_reducible repeat (first | apply Kd.C_drewN | apply Kd.C_drew)); exact HC136.out) HL137.out (by (with_reducible repeat (first | apply Kd.C_drewN | apply Kd.C_drew)); exact HC142.out) HL143.out (by (with_reducible repeat (first | apply Kd.C_drewN | apply Kd.C_drew)); exact HC21.out) HL22.out (by (with_reducible repeat (first | apply Kd.C_drewN | apply Kd.C_drew)); exact HC27.out) HL28.out (by (with_reducible repeat (first | apply Kd.C_drewN | apply Kd.C_drew)); exact HC33.out) HL34.out (by (with_reducible repeat (first | apply Kd.C_drewN | apply Kd.C_drew)); exact HC39.out) HL40.out H152.out).mono ?_
  rintro e w21 ⟨rfl, hb⟩
  have HB2 := Aside0.mk (below_next (N := hi213) (by repeat (first | exact HB.out | apply pw_below_drewN | apply below_drew1)) (by exact HN.out) (by have := O163.out; have := O166.out; have := O169.out; have := O172.out; have := O175.out; have := O178.out; have := O181.out; have := O184.out; have := O187.out; have := O192.out; have := O205.out; have := O208.out; have := O211.out; have := O214.out; omega) hb)
  replace F20 := Aside0.mk (show Kd.R (Kd.int .i64) 3 w21 w.heap.size (fun k_ => (lo167 ≤ k_ ∧ k_ < hi168) ∧ some k_ ≠ (.slice A23 x42.length c24 : Value).ownBlock) (.slice A17 x41.length c18) x41 from Kd.R_below (by (with_reducible repeat (first | apply Kd.R_drewN | apply Kd.R_drew)); exact F20.out) hb)
  replace HC21 := Aside0.mk (show Kd.C (Kd.int .i64) w21 A17 x41.length x41 from Kd.C_below (by (with_reducible repeat (first | apply Kd.C_drewN | apply Kd.C_drew)); exact HC21.out) hb)
  replace F26 := Aside0.mk (show Kd.R (Kd.int .i64) 3 w21 w.heap.size (fun k_ => (lo167 ≤ k_ ∧ k_ < hi168) ∧ some k_ ≠ (.slice A17 x41.length c18 : Value).ownBlock) (.slice A23 x42.length c24) x42 from Kd.R_below (by (with_reducible repeat (first | apply Kd.R_drewN | apply Kd.R_drew)); exact F26.out) hb)
  replace HC27 := Aside0.mk (show Kd.C (Kd.int .i64) w21 A23 x42.length x42 from Kd.C_below (by (with_reducible repeat (first | apply Kd.C_drewN | apply Kd.C_drew)); exact HC27.out) hb)
  replace F32 := Aside0.mk (show Kd.R k39 39 w21 w.heap.size (fun k_ => (lo167 ≤ k_ ∧ k_ < hi168) ∧ some k_ ≠ (.slice A35 x44.length c36 : Value).ownBlock) (.slice A29 x43.length c30) x43 from Kd.R_below (by (with_reducible repeat (first | apply Kd.R_drewN | apply Kd.R_drew)); exact F32.out) hb)
  replace HC33 := Aside0.mk (show Kd.C k39 w21 A29 x43.length x43 from Kd.C_below (by (with_reducible repeat (first | apply Kd.C_drewN | apply Kd.C_drew)); exact HC33.out) hb)
  replace F38 := Aside0.mk (show Kd.R k39 39 w21 w.heap.size (fun k_ => (lo167 ≤ k_ ∧ k_ < hi168) ∧ some k_ ≠ (.slice A29 x43.length c30 : Value).ownBlock) (.slice A35 x44.length c36) x44 from Kd.R_below (by (with_reducible repeat (first | apply Kd.R_drewN | apply Kd.R_drew)); exact F38.out) hb)
  replace HC39 := Aside0.mk (show Kd.C k39 w21 A35 x44.length x44 from Kd.C_below (by (with_reducible repeat (first | apply Kd.C_drewN | apply Kd.C_drew)); exact HC39.out) hb)
  replace F62 := Aside0.mk (show Kd.R (Kd.int .i64) 3 w21 w.heap.size (fun k_ => (lo179 ≤ k_ ∧ k_ < hi180) ∧ some k_ ≠ (.slice A65 x42.length c66 : Value).ownBlock) (.slice A59 x41.length c60) x102 from Kd.R_below (by (with_reducible repeat (first | apply Kd.R_drewN | apply Kd.R_drew)); exact F62.out) hb)
  replace HC63 := Aside0.mk (show Kd.C (Kd.int .i64) w21 A59 x102.length x102 from Kd.C_below (by (with_reducible repeat (first | apply Kd.C_drewN | apply Kd.C_drew)); exact HC63.out) hb)
  replace F68 := Aside0.mk (show Kd.R (Kd.int .i64) 3 w21 w.heap.size (fun k_ => (lo179 ≤ k_ ∧ k_ < hi180) ∧ some k_ ≠ (.slice A59 x41.length c60 : Value).ownBlock) (.slice A65 x42.length c66) x103 from Kd.R_below (by (with_reducible repeat (first | apply Kd.R_drewN | apply Kd.R_drew)); exact F68.out) hb)
  replace HC69 := Aside0.mk (show Kd.C (Kd.int .i64) w21 A65 x103.length x103 from Kd.C_below (by (with_reducible repeat (first | apply Kd.C_drewN | apply Kd.C_drew)); exact HC69.out) hb)
  replace F74 := Aside0.mk (show Kd.R k39 39 w21 w.heap.size (fun k_ => (lo179 ≤ k_ ∧ k_ < hi180) ∧ some k_ ≠ (.slice A77 x44.length c78 : Value).ownBlock) (.slice A71 x43.length c72) x104 from Kd.R_below (by (with_reducible repeat (first | apply Kd.R_drewN | apply Kd.R_drew)); exact F74.out) hb)
  replace HC75 := Aside0.mk (show Kd.C k39 w21 A71 x104.length x104 from Kd.C_below (by (with_reducible repeat (first | apply Kd.C_drewN | apply Kd.C_drew)); exact HC75.out) hb)
  replace F80 := Aside0.mk (show Kd.R k39 39 w21 w.heap.size (fun k_ => (lo179 ≤ k_ ∧ k_ < hi180) ∧ some k_ ≠ (.slice A71 x43.length c72 : Value).ownBlock) (.slice A77 x44.length c78) x105 from Kd.R_below (by (with_reducible repeat (first | apply Kd.R_drewN | apply Kd.R_drew)); exact F80.out) hb)
  replace HC81 := Aside0.mk (show Kd.C k39 w21 A77 x105.length x105 from Kd.C_below (by (with_reducible repeat (first | apply Kd.C_drewN | apply Kd.C_drew)); exact HC81.out) hb)
  replace F123 := Aside0.mk (show Kd.R (Kd.int .i64) 3 w21 w.heap.size (fun k_ => (lo209 ≤ k_ ∧ k_ < hi210) ∧ some k_ ≠ (.slice A126 x42.length c127 : Value).ownBlock) (.slice A120 x41.length c121) x41 from Kd.R_below (by (with_reducible repeat (first | apply Kd.R_drewN | apply Kd.R_drew)); exact F123.out) hb)
  replace HC124 := Aside0.mk (show Kd.C (Kd.int .i64) w21 A120 x41.length x41 from Kd.C_below (by (with_reducible repeat (first | apply Kd.C_drewN | apply Kd.C_drew)); exact HC124.out) hb)
  replace F129 := Aside0.mk (show Kd.R (Kd.int .i64) 3 w21 w.heap.size (fun k_ => (lo209 ≤ k_ ∧ k_ < hi210) ∧ some k_ ≠ (.slice A120 x41.length c121 : Value).ownBlock) (.slice A126 x42.length c127) x42 from Kd.R_below (by (with_reducible repeat (first | apply Kd.R_drewN | apply Kd.R_drew)); exact F129.out) hb)
  replace HC130 := Aside0.mk (show Kd.C (Kd.int .i64) w21 A126 x42.length x42 from Kd.C_below (by (with_reducible repeat (first | apply Kd.C_drewN | apply Kd.C_drew)); exact HC130.out) hb)
  replace F135 := Aside0.mk (show Kd.R k39 39 w21 w.heap.size (fun k_ => (lo209 ≤ k_ ∧ k_ < hi210) ∧ some k_ ≠ (.slice A138 x44.length c139 : Value).ownBlock) (.slice A132 x43.length c133) x43 from Kd.R_below (by (with_reducible repeat (first | apply Kd.R_drewN | apply Kd.R_drew)); exact F135.out) hb)
  replace HC136 := Aside0.mk (show Kd.C k39 w21 A132 x43.length x43 from Kd.C_below (by (with_reducible repeat (first | apply Kd.C_drewN | apply Kd.C_drew)); exact HC136.out) hb)
  replace F141 := Aside0.mk (show Kd.R k39 39 w21 w.heap.size (fun k_ => (lo209 ≤ k_ ∧ k_ < hi210) ∧ some k_ ≠ (.slice A132 x43.length c133 : Value).ownBlock) (.slice A138 x44.length c139) x44 from Kd.R_below (by (with_reducible repeat (first | apply Kd.R_drewN | apply Kd.R_drew)); exact F141.out) hb)
  replace HC142 := Aside0.mk (show Kd.C k39 w21 A138 x44.length x44 from Kd.C_below (by (with_reducible repeat (first | apply Kd.C_drewN | apply Kd.C_drew)); exact HC142.out) hb)
  replace BK5 := Aside0.mk (show w21.heap[gb5]? = some (.cells #[.slice A17 x41.length c18, .slice A23 x42.length c24, .slice A29 x43.length c30, .slice A35 x44.length c36, .int .i64 x45] 55 (0, 0)) from blk_below (by (with_reducible repeat (first | refine blk_drewN ?_ _ | refine blk_drew ?_)); exact BK5.out) hb)
  clear k5_0 k5_1 k5_2 k5_3 k5_4
  have k5_0 : w21.cell? ⟨gb5, 0, none⟩ = some (.slice A17 x41.length c18) := (blk_cell BK5.out 0).trans rfl
  have k5_1 : w21.cell? ⟨gb5, 1, none⟩ = some (.slice A23 x42.length c24) := (blk_cell BK5.out 1).trans rfl
  have k5_2 : w21.cell? ⟨gb5, 2, none⟩ = some (.slice A29 x43.length c30) := (blk_cell BK5.out 2).trans rfl
  have k5_3 : w21.cell? ⟨gb5, 3, none⟩ = some (.slice A35 x44.length c36) := (blk_cell BK5.out 3).trans rfl
  have k5_4 : w21.cell? ⟨gb5, 4, none⟩ = some (.int .i64 x45) := (blk_cell BK5.out 4).trans rfl
  replace BK9 := Aside0.mk (show w21.heap[gb9]? = some (.cells #[.slice A59 x41.length c60, .slice A65 x42.length c66, .slice A71 x43.length c72, .slice A77 x44.length c78, .int .i64 x45] 55 (0, 0)) from blk_below (by (with_reducible repeat (first | refine blk_drewN ?_ _ | refine blk_drew ?_)); exact BK9.out) hb)
  clear k9_0 k9_1 k9_2 k9_3 k9_4
  have k9_0 : w21.cell? ⟨gb9, 0, none⟩ = some (.slice A59 x41.length c60) := (blk_cell BK9.out 0).trans rfl
  have k9_1 : w21.cell? ⟨gb9, 1, none⟩ = some (.slice A65 x42.length c66) := (blk_cell BK9.out 1).trans rfl
  have k9_2 : w21.cell? ⟨gb9, 2, none⟩ = some (.slice A71 x43.length c72) := (blk_cell BK9.out 2).trans rfl
  have k9_3 : w21.cell? ⟨gb9, 3, none⟩ = some (.slice A77 x44.length c78) := (blk_cell BK9.out 3).trans rfl
  have k9_4 : w21.cell? ⟨gb9, 4, none⟩ = some (.int .i64 x45) := (blk_cell BK9.out 4).trans rfl
  replace BK14 := Aside0.mk (show w21.heap[gb14]? = some (.cells #[.slice A120 x41.length c121, .slice A126 x42.length c127, .slice A132 x43.length c133, .slice A138 x44.length c139, .int .i64 x45] 55 (0, 0)) from blk_below (by (with_reducible repeat (first | refine blk_drewN ?_ _ | refine blk_drew ?_)); exact BK14.out) hb)
  clear k14_0 k14_1 k14_2 k14_3 k14_4
  have k14_0 : w21.cell? ⟨gb14, 0, none⟩ = some (.slice A120 x41.length c121) := (blk_cell BK14.out 0).trans rfl
  have k14_1 : w21.cell? ⟨gb14, 1, none⟩ = some (.slice A126 x42.length c127) := (blk_cell BK14.out 1).trans rfl
  have k14_2 : w21.cell? ⟨gb14, 2, none⟩ = some (.slice A132 x43.length c133) := (blk_cell BK14.out 2).trans rfl
  have k14_3 : w21.cell? ⟨gb14, 3, none⟩ = some (.slice A138 x44.length c139) := (blk_cell BK14.out 3).trans rfl
  have k14_4 : w21.cell? ⟨gb14, 4, none⟩ = some (.int .i64 x45) := (blk_cell BK14.out 4).trans rfl
  replace HN := Aside0.mk (show hi213 ≤ w21.heap.size from Nat.le_trans HN.out hb.size)
  replace HB := HB2
  clear HB2 hb
  clear F20 HC21
  clear F26 HC27
  clear F32 HC33
  clear F38 HC39
  clear F123 HC124
  clear F129 HC130
  clear F135 HC136
  clear F141 HC142
  go_wp2_with fail
  go_at_call 47
  refine calls_of_args (args' := #[.agg #[.slice A59 x102.length c60, .slice A65 x103.length c66, .slice A71 x104.length c72, .slice A77 x105.length c78, .int .i64 x45], .int .i64 1]) (by rw [HQ198.out, HQ199.out, HQ200.out, HQ201.out]) ?_
  refine (laws_heldJob.calls k A59 c60 x102 A65 c66 x103 A71 c72 x104 A77 c78 x105 x45 1 t101 _ (by (with_reducible repeat (first | apply Kd.C_drewN | apply Kd.C_drew)); exact HC63.out) HL64.out (by (with_reducible repeat (first | apply Kd.C_drewN | apply Kd.C_drew)); exact HC69.out) HL70.out (by (with_reducible repeat (first | apply Kd.C_drewN | apply Kd.C_drew)); exact HC75.out) HL76.out (by (with_reducible repeat (first | apply Kd.C_drewN | apply Kd.C_drew)); exact HC81.out) HL82.out H159.out).mono ?_
  rintro e w22 ⟨rfl, hb⟩
  have HB2 := Aside0.mk (below_next (N := hi213) (by repeat (first | exact HB.out | apply pw_below_drewN | apply below_drew1)) (by exact HN.out) (by have := O163.out; have := O166.out; have := O169.out; have := O172.out; have := O175.out; have := O178.out; have := O181.out; have := O184.out; have := O187.out; have := O192.out; have := O205.out; have := O208.out; have := O211.out; have := O214.out; omega) hb)
  replace F62 := Aside0.mk (show Kd.R (Kd.int .i64) 3 w22 w.heap.size (fun k_ => (lo179 ≤ k_ ∧ k_ < hi180) ∧ some k_ ≠ (.slice A65 x42.length c66 : Value).ownBlock) (.slice A59 x41.length c60) x102 from Kd.R_below (by (with_reducible repeat (first | apply Kd.R_drewN | apply Kd.R_drew)); exact F62.out) hb)
  replace HC63 := Aside0.mk (show Kd.C (Kd.int .i64) w22 A59 x102.length x102 from Kd.C_below (by (with_reducible repeat (first | apply Kd.C_drewN | apply Kd.C_drew)); exact HC63.out) hb)
  replace F68 := Aside0.mk (show Kd.R (Kd.int .i64) 3 w22 w.heap.size (fun k_ => (lo179 ≤ k_ ∧ k_ < hi180) ∧ some k_ ≠ (.slice A59 x41.length c60 : Value).ownBlock) (.slice A65 x42.length c66) x103 from Kd.R_below (by (with_reducible repeat (first | apply Kd.R_drewN | apply Kd.R_drew)); exact F68.out) hb)
  replace HC69 := Aside0.mk (show Kd.C (Kd.int .i64) w22 A65 x103.length x103 from Kd.C_below (by (with_reducible repeat (first | apply Kd.C_drewN | apply Kd.C_drew)); exact HC69.out) hb)
  replace F74 := Aside0.mk (show Kd.R k39 39 w22 w.heap.size (fun k_ => (lo179 ≤ k_ ∧ k_ < hi180) ∧ some k_ ≠ (.slice A77 x44.length c78 : Value).ownBlock) (.slice A71 x43.length c72) x104 from Kd.R_below (by (with_reducible repeat (first | apply Kd.R_drewN | apply Kd.R_drew)); exact F74.out) hb)
  replace HC75 := Aside0.mk (show Kd.C k39 w22 A71 x104.length x104 from Kd.C_below (by (with_reducible repeat (first | apply Kd.C_drewN | apply Kd.C_drew)); exact HC75.out) hb)
  replace F80 := Aside0.mk (show Kd.R k39 39 w22 w.heap.size (fun k_ => (lo179 ≤ k_ ∧ k_ < hi180) ∧ some k_ ≠ (.slice A71 x43.length c72 : Value).ownBlock) (.slice A77 x44.length c78) x105 from Kd.R_below (by (with_reducible repeat (first | apply Kd.R_drewN | apply Kd.R_drew)); exact F80.out) hb)
  replace HC81 := Aside0.mk (show Kd.C k39 w22 A77 x105.length x105 from Kd.C_below (by (with_reducible repeat (first | apply Kd.C_drewN | apply Kd.C_drew)); exact HC81.out) hb)
  replace BK5 := Aside0.mk (show w22.heap[gb5]? = some (.cells #[.slice A17 x41.length c18, .slice A23 x42.length c24, .slice A29 x43.length c30, .slice A35 x44.length c36, .int .i64 x45] 55 (0, 0)) from blk_below (by (with_reducible repeat (first | refine blk_drewN ?_ _ | refine blk_drew ?_)); exact BK5.out) hb)
  clear k5_0 k5_1 k5_2 k5_3 k5_4
  have k5_0 : w22.cell? ⟨gb5, 0, none⟩ = some (.slice A17 x41.length c18) := (blk_cell BK5.out 0).trans rfl
  have k5_1 : w22.cell? ⟨gb5, 1, none⟩ = some (.slice A23 x42.length c24) := (blk_cell BK5.out 1).trans rfl
  have k5_2 : w22.cell? ⟨gb5, 2, none⟩ = some (.slice A29 x43.length c30) := (blk_cell BK5.out 2).trans rfl
  have k5_3 : w22.cell? ⟨gb5, 3, none⟩ = some (.slice A35 x44.length c36) := (blk_cell BK5.out 3).trans rfl
  have k5_4 : w22.cell? ⟨gb5, 4, none⟩ = some (.int .i64 x45) := (blk_cell BK5.out 4).trans rfl
  replace BK9 := Aside0.mk (show w22.heap[gb9]? = some (.cells #[.slice A59 x41.length c60, .slice A65 x42.length c66, .slice A71 x43.length c72, .slice A77 x44.length c78, .int .i64 x45] 55 (0, 0)) from blk_below (by (with_reducible repeat (first | refine blk_drewN ?_ _ | refine blk_drew ?_)); exact BK9.out) hb)
  clear k9_0 k9_1 k9_2 k9_3 k9_4
  have k9_0 : w22.cell? ⟨gb9, 0, none⟩ = some (.slice A59 x41.length c60) := (blk_cell BK9.out 0).trans rfl
  have k9_1 : w22.cell? ⟨gb9, 1, none⟩ = some (.slice A65 x42.length c66) := (blk_cell BK9.out 1).trans rfl
  have k9_2 : w22.cell? ⟨gb9, 2, none⟩ = some (.slice A71 x43.length c72) := (blk_cell BK9.out 2).trans rfl
  have k9_3 : w22.cell? ⟨gb9, 3, none⟩ = some (.slice A77 x44.length c78) := (blk_cell BK9.out 3).trans rfl
  have k9_4 : w22.cell? ⟨gb9, 4, none⟩ = some (.int .i64 x45) := (blk_cell BK9.out 4).trans rfl
  replace BK14 := Aside0.mk (show w22.heap[gb14]? = some (.cells #[.slice A120 x41.length c121, .slice A126 x42.length c127, .slice A132 x43.length c133, .slice A138 x44.length c139, .int .i64 x45] 55 (0, 0)) from blk_below (by (with_reducible repeat (first | refine blk_drewN ?_ _ | refine blk_drew ?_)); exact BK14.out) hb)
  clear k14_0 k14_1 k14_2 k14_3 k14_4
  have k14_0 : w22.cell? ⟨gb14, 0, none⟩ = some (.slice A120 x41.length c121) := (blk_cell BK14.out 0).trans rfl
  have k14_1 : w22.cell? ⟨gb14, 1, none⟩ = some (.slice A126 x42.length c127) := (blk_cell BK14.out 1).trans rfl
  have k14_2 : w22.cell? ⟨gb14, 2, none⟩ = some (.slice A132 x43.length c133) := (blk_cell BK14.out 2).trans rfl
  have k14_3 : w22.cell? ⟨gb14, 3, none⟩ = some (.slice A138 x44.length c139) := (blk_cell BK14.out 3).trans rfl
  have k14_4 : w22.cell? ⟨gb14, 4, none⟩ = some (.int .i64 x45) := (blk_cell BK14.out 4).trans rfl
  replace HN := Aside0.mk (show hi213 ≤ w22.heap.size from Nat.le_trans HN.out hb.size)
  replace HB := HB2
  clear HB2 hb
  clear F62 HC63
  clear F68 HC69
  clear F74 HC75
  clear F80 HC81
  have d215 : decide (t101 < 0) = false := decide_eq_false (by have := H160.out; omega)
  go_wp2_with fail
  go_ret
  exact ⟨rfl, (by repeat (first | exact HB.out | apply pw_below_drewN | apply below_drew1))⟩

/-- THE ONE PURE STATEMENT of laws_FnExactNewJob. -/
def laws_FnExactNewJob.Pure : Prop := ∀ (l0 : List Int) (l1 : List Int), (l0.length ≤ maxLen ∧ ∀ x ∈ l0, (Lit.int .i64 x).wf = true) → (l1.length ≤ maxLen ∧ ∀ x ∈ l1, (Lit.int .i64 x).wf = true) → ∃ k, laws_FnExactNewJob.f k l0 l1 = some true
theorem laws_FnExactNewJob.walk (P : laws_FnExactNewJob.Pure) (A0 : Option Addr) (c0 : Nat) (l0 : List Int) (A1 : Option Addr) (c1 : Nat) (l1 : List Int) (w : World) (hr0 : Kd.C (Kd.int .i64) w A0 l0.length l0) (hc0 : l0.length ≤ c0) (hw0 : (l0.length ≤ maxLen ∧ ∀ x ∈ l0, (Lit.int .i64 x).wf = true)) (hr1 : Kd.C (Kd.int .i64) w A1 l1.length l1) (hc1 : l1.length ≤ c1) (hw1 : (l1.length ≤ maxLen ∧ ∀ x ∈ l1, (Lit.int .i64 x).wf = true)) :
    Calls Try.prog 11 #[.slice A0 l0.length c0, .slice A1 l1.length c1] w fun e w' => e = .returned (.bool true) ∧ Below w.heap.size w w' := by
  obtain ⟨k, h⟩ := P l0 l1 hw0 hw1
  refine (laws_FnExactNewJob.calls k _ _ l0 _ _ l1 true w hr0 hc0 hr1 hc1 h).mono ?_
  rintro e w' ⟨rfl, hd⟩
  exact ⟨rfl, hd⟩

end Go.Proofs.Ytccnpnlmihcmlaa.GLNewJob
