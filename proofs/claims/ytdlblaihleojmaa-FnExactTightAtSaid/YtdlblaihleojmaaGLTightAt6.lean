-- Written by a program of this session (gprint.py), over the kit's print: not trusted: Lean checks it.
import Derived.Test.YtdlblaihleojmaaGLTightAt0
import Derived.Test.YtdlblaihleojmaaGLTightAt1
import Derived.Test.YtdlblaihleojmaaGLTightAt2
import Derived.Test.YtdlblaihleojmaaGLTightAt3
import Derived.Test.YtdlblaihleojmaaGLTightAt4
import Derived.Test.YtdlblaihleojmaaGLTightAt5
namespace Go.Proofs.Ytdlblaihleojmaa.GLTightAt
open Go.RowKit Go.Proofs.YtdlblaihleojmaaW.PrintWords Go.Proofs.YtdlblaihleojmaaW.PrintLast Go.Proofs.YtdlblaihleojmaaW.PrintMore Go.Proofs.YtdlblaihleojmaaW.PrintOwn
attribute [local go_sem] max2_int min2_int max_two min_two max_three min_three max_four min_four   -- for this text's walks alone
set_option linter.unusedVariables false
set_option linter.unusedSimpArgs false

/-! ### laws_FnExactTightAt: function 7 -/
def laws_FnExactTightAt.f (k : Nat) (l0 : List (List Int)) (l1_0 : List Int) (l1_1 : List Int) : Option (Bool) := (laws_szIntSS.f k l0 1048576).bind fun t1 => (if t1 < 0 then some true else ((laws_szPrices.f l1_0 l1_1 t1).bind fun t2 => (if t2 < 0 then some true else ((laws_toIntSS.f k l0).bind fun x10 => ((laws_toPrices.f k l1_0 l1_1).bind fun p => match p with | (x24, x25) => ((spec_TightAt.f k x10 x24 x25).bind fun p => match p with | (x32, x33) => (if impl_TightAt.f k x10 x24 x25 = some (x32, x33) then (if laws_eqBoolSS.f k x32 x32 = some true then (if laws_eqIntSS.f k x10 x10 = some true then (if laws_eqPrices.f k x24 x25 x24 x25 = some true then ((laws_markIntSS.g x10 1).bind fun p => match p with | (t78, x79) => ((laws_markPrices.f k x24 x25 t78).bind fun p => match p with | (t80, x81, x82) => (if 0 ≤ t80 then ((laws_markBoolSS.g x32 1).bind fun p => match p with | (t83, x84) => (if laws_heldBoolSS.f k x84 1 = some t83 then (if 0 ≤ t83 then (some true) else none) else none)) else none))) else none) else none) else none) else none)))))))
set_option maxHeartbeats 16000000 in
set_option maxRecDepth 100000 in
theorem laws_FnExactTightAt.calls (k : Nat) (A0 : Option Addr) (c0 : Nat) (l0 : List (List Int)) (A1_0 : Option Addr) (c1_0 : Nat) (l1_0 : List Int) (A1_1 : Option Addr) (c1_1 : Nat) (l1_1 : List Int) (r : Bool) (w : World) (hr0 : Kd.C (Kd.slice 3 (Kd.int .i64)) w A0 l0.length l0) (hc0 : l0.length ≤ c0) (hr1_0 : Kd.C (Kd.int .i64) w A1_0 l1_0.length l1_0) (hc1_0 : l1_0.length ≤ c1_0) (hr1_1 : Kd.C (Kd.int .i64) w A1_1 l1_1.length l1_1) (hc1_1 : l1_1.length ≤ c1_1) (h : laws_FnExactTightAt.f k l0 l1_0 l1_1 = some r) :
    Calls Try.prog 7 #[.slice A0 l0.length c0, .agg #[.slice A1_0 l1_0.length c1_0, .slice A1_1 l1_1.length c1_1]] w fun e w' => e = .returned (.bool r) ∧ Below w.heap.size w w' := by
  have HR0 := Aside0.mk hr0
  have HL0 := Aside0.mk hc0
  clear hr0 hc0
  have HR1_0 := Aside0.mk hr1_0
  have HL1_0 := Aside0.mk hc1_0
  clear hr1_0 hc1_0
  have HR1_1 := Aside0.mk hr1_1
  have HL1_1 := Aside0.mk hc1_1
  clear hr1_1 hc1_1
  unfold laws_FnExactTightAt.f at h
  replace h := Option.bind_eq_some_iff.mp h
  obtain ⟨t1, H1110, h⟩ := h
  have H111 := Aside0.mk H1110
  clear H1110
  try dsimp only at h
  by_cases c112 : t1 < 0
  · rw [if_pos c112] at h
    obtain rfl := Option.some.inj h
    clear h
    have d1 : decide (t1 < 0) = true := decide_eq_true c112
    clear c112
    go_enter Try.func7, Try.ntmps7
    have HB := Aside0.mk (Below.refl w.heap.size w)
    have HN := Aside0.mk (Nat.le_refl w.heap.size)
    go_wp2_with ((with_reducible refine gate_dst (N := 3) rfl ?_); refine box_event ?hg (N := 3) ?hd (cs := #[.slice A1_0 l1_0.length c1_0, .slice A1_1 l1_1.length c1_1]) (t := 29) ?hr ?_; (case hd => rfl); (case hg => rfl); (case hr => first | (go_simp; done) | (go_simp; rfl)); intro gb3 hgb w1 hbox hb0; have hb := hb0; have BK3 := Aside0.mk hbox; have HGB := Aside0.mk hgb; clear hgb hbox hb0)
    replace BK3 := Aside0.mk (show w1.heap[gb3]? = some (.cells #[.slice A1_0 l1_0.length c1_0, .slice A1_1 l1_1.length c1_1] 29 (0, 0)) from BK3.out)
    have HB2 := Aside0.mk (below_next (N := w.heap.size) (by repeat (first | exact HB.out | apply pw_below_drewN | apply below_drew1)) (by exact HN.out) (by omega) hb)
    obtain ⟨lo113, hi114, ho, hg⟩ := fresh_pts (N := w.heap.size) hb (by exact HN.out)
    have O115 := Aside0.mk (show w.heap.size ≤ lo113 ∧ lo113 ≤ hi114 from ⟨ho.1, ho.2.1⟩)
    have EG3 := Aside0.mk (show gb3 = lo113 ∧ gb3 < hi114 from ⟨HGB.out.trans hg.1.symm, by rw [hg.2]; exact blk_lt BK3.out⟩)
    replace HN := Aside0.mk (show hi114 ≤ w1.heap.size from ho.2.2)
    clear ho hg HGB
    replace HB := HB2
    clear HB2 hb
    have k3_0 : w1.cell? ⟨gb3, 0, none⟩ = some (.slice A1_0 l1_0.length c1_0) := (blk_cell BK3.out 0).trans rfl
    have k3_1 : w1.cell? ⟨gb3, 1, none⟩ = some (.slice A1_1 l1_1.length c1_1) := (blk_cell BK3.out 1).trans rfl
    go_wp2_with fail
    go_at_call 11
    refine (laws_szIntSS.calls k A0 c0 l0 1048576 t1 _ (Kd.C_below HR0.out (by repeat (first | exact HB.out | apply pw_below_drewN | apply below_drew1))) HL0.out H111.out).mono ?_
    rintro e w_116 ⟨rfl, ⟨nd117, rfl⟩⟩
    go_wp2_with fail
    go_ret
    exact ⟨rfl, (by repeat (first | exact HB.out | apply pw_below_drewN | apply below_drew1))⟩
  rw [if_neg c112] at h
  have d118 : decide (t1 < 0) = false := decide_eq_false c112
  clear c112
  replace h := Option.bind_eq_some_iff.mp h
  obtain ⟨t2, H1190, h⟩ := h
  have H119 := Aside0.mk H1190
  clear H1190
  try dsimp only at h
  by_cases c120 : t2 < 0
  · rw [if_pos c120] at h
    obtain rfl := Option.some.inj h
    clear h
    have d1 : decide (t2 < 0) = true := decide_eq_true c120
    clear c120
    go_enter Try.func7, Try.ntmps7
    have HB := Aside0.mk (Below.refl w.heap.size w)
    have HN := Aside0.mk (Nat.le_refl w.heap.size)
    go_wp2_with ((with_reducible refine gate_dst (N := 3) rfl ?_); refine box_event ?hg (N := 3) ?hd (cs := #[.slice A1_0 l1_0.length c1_0, .slice A1_1 l1_1.length c1_1]) (t := 29) ?hr ?_; (case hd => rfl); (case hg => rfl); (case hr => first | (go_simp; done) | (go_simp; rfl)); intro gb3 hgb w1 hbox hb0; have hb := hb0; have BK3 := Aside0.mk hbox; have HGB := Aside0.mk hgb; clear hgb hbox hb0)
    replace BK3 := Aside0.mk (show w1.heap[gb3]? = some (.cells #[.slice A1_0 l1_0.length c1_0, .slice A1_1 l1_1.length c1_1] 29 (0, 0)) from BK3.out)
    have HB2 := Aside0.mk (below_next (N := w.heap.size) (by repeat (first | exact HB.out | apply pw_below_drewN | apply below_drew1)) (by exact HN.out) (by omega) hb)
    obtain ⟨lo121, hi122, ho, hg⟩ := fresh_pts (N := w.heap.size) hb (by exact HN.out)
    have O123 := Aside0.mk (show w.heap.size ≤ lo121 ∧ lo121 ≤ hi122 from ⟨ho.1, ho.2.1⟩)
    have EG3 := Aside0.mk (show gb3 = lo121 ∧ gb3 < hi122 from ⟨HGB.out.trans hg.1.symm, by rw [hg.2]; exact blk_lt BK3.out⟩)
    replace HN := Aside0.mk (show hi122 ≤ w1.heap.size from ho.2.2)
    clear ho hg HGB
    replace HB := HB2
    clear HB2 hb
    have k3_0 : w1.cell? ⟨gb3, 0, none⟩ = some (.slice A1_0 l1_0.length c1_0) := (blk_cell BK3.out 0).trans rfl
    have k3_1 : w1.cell? ⟨gb3, 1, none⟩ = some (.slice A1_1 l1_1.length c1_1) := (blk_cell BK3.out 1).trans rfl
    go_wp2_with fail
    go_at_call 11
    refine (laws_szIntSS.calls k A0 c0 l0 1048576 t1 _ (Kd.C_below HR0.out (by repeat (first | exact HB.out | apply pw_below_drewN | apply below_drew1))) HL0.out H111.out).mono ?_
    rintro e w_124 ⟨rfl, ⟨nd125, rfl⟩⟩
    go_wp2_with fail
    go_at_call 16
    refine (laws_szPrices.calls A1_0 c1_0 l1_0 A1_1 c1_1 l1_1 t1 t2 _ (Kd.C_below HR1_0.out (by repeat (first | exact HB.out | apply pw_below_drewN | apply below_drew1))) HL1_0.out (Kd.C_below HR1_1.out (by repeat (first | exact HB.out | apply pw_below_drewN | apply below_drew1))) HL1_1.out H119.out).mono ?_
    rintro e w2 ⟨rfl, hb⟩
    have HB2 := Aside0.mk (below_next (N := hi122) (by repeat (first | exact HB.out | apply pw_below_drewN | apply below_drew1)) (by exact HN.out) (by have := O123.out; omega) hb)
    replace BK3 := Aside0.mk (show w2.heap[gb3]? = some (.cells #[.slice A1_0 l1_0.length c1_0, .slice A1_1 l1_1.length c1_1] 29 (0, 0)) from blk_below (by (with_reducible repeat (first | refine blk_drewN ?_ _ | refine blk_drew ?_)); exact BK3.out) hb)
    clear k3_0 k3_1
    have k3_0 : w2.cell? ⟨gb3, 0, none⟩ = some (.slice A1_0 l1_0.length c1_0) := (blk_cell BK3.out 0).trans rfl
    have k3_1 : w2.cell? ⟨gb3, 1, none⟩ = some (.slice A1_1 l1_1.length c1_1) := (blk_cell BK3.out 1).trans rfl
    replace HN := Aside0.mk (show hi122 ≤ w2.heap.size from Nat.le_trans HN.out hb.size)
    replace HB := HB2
    clear HB2 hb
    go_wp2_with fail
    go_ret
    exact ⟨rfl, (by repeat (first | exact HB.out | apply pw_below_drewN | apply below_drew1))⟩
  rw [if_neg c120] at h
  have d126 : decide (t2 < 0) = false := decide_eq_false c120
  clear c120
  replace h := Option.bind_eq_some_iff.mp h
  obtain ⟨x10, H1270, h⟩ := h
  have H127 := Aside0.mk H1270
  clear H1270
  try dsimp only at h
  replace h := Option.bind_eq_some_iff.mp h
  obtain ⟨⟨x24, x25⟩, H1280, h⟩ := h
  have H128 := Aside0.mk H1280
  clear H1280
  try dsimp only at h
  replace h := Option.bind_eq_some_iff.mp h
  obtain ⟨⟨x32, x33⟩, H1290, h⟩ := h
  have H129 := Aside0.mk H1290
  clear H1290
  try dsimp only at h
  obtain ⟨H1300, h⟩ := need_of h
  have H130 := Aside0.mk H1300
  clear H1300
  obtain ⟨H1310, h⟩ := need_of h
  have H131 := Aside0.mk H1310
  clear H1310
  obtain ⟨H1320, h⟩ := need_of h
  have H132 := Aside0.mk H1320
  clear H1320
  obtain ⟨H1330, h⟩ := need_of h
  have H133 := Aside0.mk H1330
  clear H1330
  replace h := Option.bind_eq_some_iff.mp h
  obtain ⟨⟨t78, x79⟩, H1340, h⟩ := h
  have H134 := Aside0.mk H1340
  clear H1340
  try dsimp only at h
  replace h := Option.bind_eq_some_iff.mp h
  obtain ⟨⟨t80, x81, x82⟩, H1350, h⟩ := h
  have H135 := Aside0.mk H1350
  clear H1350
  try dsimp only at h
  obtain ⟨H1360, h⟩ := need_of h
  have H136 := Aside0.mk H1360
  clear H1360
  replace h := Option.bind_eq_some_iff.mp h
  obtain ⟨⟨t83, x84⟩, H1370, h⟩ := h
  have H137 := Aside0.mk H1370
  clear H1370
  try dsimp only at h
  obtain ⟨H1380, h⟩ := need_of h
  have H138 := Aside0.mk H1380
  clear H1380
  obtain ⟨H1390, h⟩ := need_of h
  have H139 := Aside0.mk H1390
  clear H1390
  obtain rfl := Option.some.inj h
  clear h
  go_enter Try.func7, Try.ntmps7
  have HB := Aside0.mk (Below.refl w.heap.size w)
  have HN := Aside0.mk (Nat.le_refl w.heap.size)
  go_wp2_with ((with_reducible refine gate_dst (N := 3) rfl ?_); refine box_event ?hg (N := 3) ?hd (cs := #[.slice A1_0 l1_0.length c1_0, .slice A1_1 l1_1.length c1_1]) (t := 29) ?hr ?_; (case hd => rfl); (case hg => rfl); (case hr => first | (go_simp; done) | (go_simp; rfl)); intro gb3 hgb w1 hbox hb0; have hb := hb0; have BK3 := Aside0.mk hbox; have HGB := Aside0.mk hgb; clear hgb hbox hb0)
  replace BK3 := Aside0.mk (show w1.heap[gb3]? = some (.cells #[.slice A1_0 l1_0.length c1_0, .slice A1_1 l1_1.length c1_1] 29 (0, 0)) from BK3.out)
  have HB2 := Aside0.mk (below_next (N := w.heap.size) (by repeat (first | exact HB.out | apply pw_below_drewN | apply below_drew1)) (by exact HN.out) (by omega) hb)
  obtain ⟨lo140, hi141, ho, hg⟩ := fresh_pts (N := w.heap.size) hb (by exact HN.out)
  have O142 := Aside0.mk (show w.heap.size ≤ lo140 ∧ lo140 ≤ hi141 from ⟨ho.1, ho.2.1⟩)
  have EG3 := Aside0.mk (show gb3 = lo140 ∧ gb3 < hi141 from ⟨HGB.out.trans hg.1.symm, by rw [hg.2]; exact blk_lt BK3.out⟩)
  replace HN := Aside0.mk (show hi141 ≤ w1.heap.size from ho.2.2)
  clear ho hg HGB
  replace HB := HB2
  clear HB2 hb
  have k3_0 : w1.cell? ⟨gb3, 0, none⟩ = some (.slice A1_0 l1_0.length c1_0) := (blk_cell BK3.out 0).trans rfl
  have k3_1 : w1.cell? ⟨gb3, 1, none⟩ = some (.slice A1_1 l1_1.length c1_1) := (blk_cell BK3.out 1).trans rfl
  go_wp2_with fail
  go_at_call 11
  refine (laws_szIntSS.calls k A0 c0 l0 1048576 t1 _ (Kd.C_below HR0.out (by repeat (first | exact HB.out | apply pw_below_drewN | apply below_drew1))) HL0.out H111.out).mono ?_
  rintro e w_143 ⟨rfl, ⟨nd144, rfl⟩⟩
  go_wp2_with fail
  go_at_call 16
  refine (laws_szPrices.calls A1_0 c1_0 l1_0 A1_1 c1_1 l1_1 t1 t2 _ (Kd.C_below HR1_0.out (by repeat (first | exact HB.out | apply pw_below_drewN | apply below_drew1))) HL1_0.out (Kd.C_below HR1_1.out (by repeat (first | exact HB.out | apply pw_below_drewN | apply below_drew1))) HL1_1.out H119.out).mono ?_
  rintro e w2 ⟨rfl, hb⟩
  have HB2 := Aside0.mk (below_next (N := hi141) (by repeat (first | exact HB.out | apply pw_below_drewN | apply below_drew1)) (by exact HN.out) (by have := O142.out; omega) hb)
  replace BK3 := Aside0.mk (show w2.heap[gb3]? = some (.cells #[.slice A1_0 l1_0.length c1_0, .slice A1_1 l1_1.length c1_1] 29 (0, 0)) from blk_below (by (with_reducible repeat (first | refine blk_drewN ?_ _ | refine blk_drew ?_)); exact BK3.out) hb)
  clear k3_0 k3_1
  have k3_0 : w2.cell? ⟨gb3, 0, none⟩ = some (.slice A1_0 l1_0.length c1_0) := (blk_cell BK3.out 0).trans rfl
  have k3_1 : w2.cell? ⟨gb3, 1, none⟩ = some (.slice A1_1 l1_1.length c1_1) := (blk_cell BK3.out 1).trans rfl
  replace HN := Aside0.mk (show hi141 ≤ w2.heap.size from Nat.le_trans HN.out hb.size)
  replace HB := HB2
  clear HB2 hb
  go_wp2_with fail
  refine start_ (n := 10) (S := fun w' => w'.cell? ⟨gb3, 0, none⟩ = some (.slice A1_0 l1_0.length c1_0) ∧ w'.cell? ⟨gb3, 1, none⟩ = some (.slice A1_1 l1_1.length c1_1)) (ds := []) #[false, false, false, false, false, false, false, false, false, false] (by kernel_rfl) rfl rfl ⟨(blk_cell BK3.out 0).trans rfl, (blk_cell BK3.out 1).trans rfl⟩ (fun hHeld => ?_)
  refine pure_ (i := 0) (N := some 28) (v := ?_) (a' := ?_) #[true, false, false, false, false, false, false, false, false, false] rfl rfl (by kernel_rfl) (fun _ _ _ h => h) (Or.inl ⟨by rfl, ?_⟩) ?_ ?_
  rotate_left
  · intro w'
    go_simp
    with_reducible rfl
  rotate_left
  · simp only [Act.put, List.setIfInBounds_toArray, List.set_cons_zero, List.set_cons_succ, i64_w, i32_w]
    rfl
  refine take_ (i := 2) (N := some 30) (v := ?_) (a' := ?_) #[true, false, true, false, false, false, false, false, false, false] rfl rfl (by kernel_rfl) (fun _ _ _ h => h) (Or.inl ⟨by rfl, ?_⟩) hHeld ?_ ?_
  rotate_left
  · rintro w' ⟨s0, s1⟩
    go_simp
    with_reducible rfl
  rotate_left
  · simp only [Act.put, List.setIfInBounds_toArray, List.set_cons_zero, List.set_cons_succ, i64_w, i32_w]
    rfl
  refine one_ (i := 1) (N := some 29) #[true, true, true, false, false, false, false, false, false, false] rfl rfl (by kernel_rfl) (by decide) (fun K hK => ?_)
  refine goes_ Try.func13 (by kernel_rfl) rfl #[.slice A0 l0.length c0] (by rfl) rfl rfl (by simp only [List.map_toArray, List.map_cons, List.map_nil]; rfl) ?_
  (with_reducible refine (laws_toIntSS.calls k A0 c0 l0 x10 _ (Kd.C_below HR0.out (by repeat (first | exact HB.out | apply pw_below_drewN | apply below_drew1))) HL0.out H127.out).mono ?_)
  rintro e w3 ⟨v6, rfl, hF7, hb⟩
  refine ⟨_, rfl, ?_⟩
  have HB2 := Aside0.mk (below_next (N := hi141) (by repeat (first | exact HB.out | apply pw_below_drewN | apply below_drew1)) (by exact HN.out) (by have := O142.out; omega) hb)
  replace BK3 := Aside0.mk (show w3.heap[gb3]? = some (.cells #[.slice A1_0 l1_0.length c1_0, .slice A1_1 l1_1.length c1_1] 29 (0, 0)) from blk_below (by (with_reducible repeat (first | refine blk_drewN ?_ _ | refine blk_drew ?_)); exact BK3.out) hb)
  clear k3_0 k3_1
  have k3_0 : w3.cell? ⟨gb3, 0, none⟩ = some (.slice A1_0 l1_0.length c1_0) := (blk_cell BK3.out 0).trans rfl
  have k3_1 : w3.cell? ⟨gb3, 1, none⟩ = some (.slice A1_1 l1_1.length c1_1) := (blk_cell BK3.out 1).trans rfl
  obtain ⟨lo145, hi146, ho, hg⟩ := fresh_pts (N := hi141) hb (by exact HN.out)
  have O147 := Aside0.mk (show hi141 ≤ lo145 ∧ lo145 ≤ hi146 from ⟨ho.1, ho.2.1⟩)
  have hF7b := S_in hF7 hg (B := w.heap.size) (by have := O142.out; have := O147.out; omega)
  obtain ⟨A4, c5, rfl, hle, hC⟩ := Kd.S_reads hF7b
  have HC8 := Aside0.mk hC
  have HL9 := Aside0.mk hle
  clear hle hC
  have F7 := Aside0.mk (show Kd.S (Kd.slice 3 (Kd.int .i64)) 27 w3 w.heap.size (fun k_ => (lo145 ≤ k_ ∧ k_ < hi146) ∧ True) (.slice A4 x10.length c5) x10 from hF7b)
  clear hF7 hF7b
  replace HN := Aside0.mk (show hi146 ≤ w3.heap.size from ho.2.2)
  clear ho hg
  replace HB := HB2
  clear HB2 hb
  refine hK.out _ _ ⟨(blk_cell BK3.out 0).trans rfl, (blk_cell BK3.out 1).trans rfl⟩ (fun hHeld => ?_)
  clear hK K
  refine norm_ (a' := ?_) ?_ ?_
  rotate_left
  · show Act.put _ (some 29) _ = _
    simp only [Act.put, List.setIfInBounds_toArray, List.set_cons_zero, List.set_cons_succ, i64_w, i32_w]
    rfl
  refine one_ (i := 3) (N := some 31) #[true, true, true, true, false, false, false, false, false, false] rfl rfl (by kernel_rfl) (by decide) (fun K hK => ?_)
  refine goes_ Try.func18 (by kernel_rfl) rfl #[.agg #[.slice A1_0 l1_0.length c1_0, .slice A1_1 l1_1.length c1_1]] (by rfl) rfl rfl (by simp only [List.map_toArray, List.map_cons, List.map_nil]; rfl) ?_
  (with_reducible refine (laws_toPrices.calls k A1_0 c1_0 l1_0 A1_1 c1_1 l1_1 x24 x25 _ (Kd.C_below HR1_0.out (by repeat (first | exact HB.out | apply pw_below_drewN | apply below_drew1))) HL1_0.out (Kd.C_below HR1_1.out (by repeat (first | exact HB.out | apply pw_below_drewN | apply below_drew1))) HL1_1.out H128.out).mono ?_)
  rintro e w4 ⟨v14, v20, rfl, hF15, hF21, hb⟩
  refine ⟨_, rfl, ?_⟩
  have HB2 := Aside0.mk (below_next (N := hi146) (by repeat (first | exact HB.out | apply pw_below_drewN | apply below_drew1)) (by exact HN.out) (by have := O142.out; have := O147.out; omega) hb)
  replace F7 := Aside0.mk (show Kd.S (Kd.slice 3 (Kd.int .i64)) 27 w4 w.heap.size (fun k_ => (lo145 ≤ k_ ∧ k_ < hi146) ∧ True) (.slice A4 x10.length c5) x10 from Kd.S_below (by (with_reducible repeat (first | apply Kd.S_drewN | apply Kd.S_drew)); exact F7.out) hb)
  replace HC8 := Aside0.mk (show Kd.C (Kd.slice 3 (Kd.int .i64)) w4 A4 x10.length x10 from Kd.C_below (by (with_reducible repeat (first | apply Kd.C_drewN | apply Kd.C_drew)); exact HC8.out) hb)
  replace BK3 := Aside0.mk (show w4.heap[gb3]? = some (.cells #[.slice A1_0 l1_0.length c1_0, .slice A1_1 l1_1.length c1_1] 29 (0, 0)) from blk_below (by (with_reducible repeat (first | refine blk_drewN ?_ _ | refine blk_drew ?_)); exact BK3.out) hb)
  clear k3_0 k3_1
  have k3_0 : w4.cell? ⟨gb3, 0, none⟩ = some (.slice A1_0 l1_0.length c1_0) := (blk_cell BK3.out 0).trans rfl
  have k3_1 : w4.cell? ⟨gb3, 1, none⟩ = some (.slice A1_1 l1_1.length c1_1) := (blk_cell BK3.out 1).trans rfl
  obtain ⟨lo148, hi149, ho, hg⟩ := fresh_pts (N := hi146) hb (by exact HN.out)
  have O150 := Aside0.mk (show hi146 ≤ lo148 ∧ lo148 ≤ hi149 from ⟨ho.1, ho.2.1⟩)
  have hF15b := R_in hF15 hg (B := w.heap.size) (by have := O142.out; have := O147.out; have := O150.out; omega)
  have hF21b := R_in hF21 hg (B := w.heap.size) (by have := O142.out; have := O147.out; have := O150.out; omega)
  obtain ⟨A12, c13, rfl, hle, hC⟩ := Kd.R_reads hF15b
  have HC16 := Aside0.mk hC
  have HL17 := Aside0.mk hle
  clear hle hC
  obtain ⟨A18, c19, rfl, hle, hC⟩ := Kd.R_reads hF21b
  have HC22 := Aside0.mk hC
  have HL23 := Aside0.mk hle
  clear hle hC
  have F15 := Aside0.mk (show Kd.R (Kd.int .i64) 3 w4 w.heap.size (fun k_ => (lo148 ≤ k_ ∧ k_ < hi149) ∧ some k_ ≠ (.slice A18 x25.length c19 : Value).ownBlock) (.slice A12 x24.length c13) x24 from hF15b)
  clear hF15 hF15b
  have F21 := Aside0.mk (show Kd.R (Kd.int .i64) 3 w4 w.heap.size (fun k_ => (lo148 ≤ k_ ∧ k_ < hi149) ∧ some k_ ≠ (.slice A12 x24.length c13 : Value).ownBlock) (.slice A18 x25.length c19) x25 from hF21b)
  clear hF21 hF21b
  replace HN := Aside0.mk (show hi149 ≤ w4.heap.size from ho.2.2)
  clear ho hg
  replace HB := HB2
  clear HB2 hb
  refine hK.out _ _ ⟨(blk_cell BK3.out 0).trans rfl, (blk_cell BK3.out 1).trans rfl⟩ (fun hHeld => ?_)
  clear hK K
  refine norm_ (a' := ?_) ?_ ?_
  rotate_left
  · show Act.put _ (some 31) _ = _
    simp only [Act.put, List.setIfInBounds_toArray, List.set_cons_zero, List.set_cons_succ, i64_w, i32_w]
    rfl
  refine one_ (i := 4) (N := some 32) #[true, true, true, true, true, false, false, false, false, false] rfl rfl (by kernel_rfl) (by decide) (fun K hK => ?_)
  refine goes_ Try.func27 (by kernel_rfl) rfl #[.slice A4 x10.length c5, .agg #[.slice A12 x24.length c13, .slice A18 x25.length c19]] (by rfl) rfl rfl (by simp only [List.map_toArray, List.map_cons, List.map_nil]; rfl) ?_
  (with_reducible refine (spec_TightAt.calls k A4 c5 x10 A12 c13 x24 A18 c19 x25 x32 x33 _ (by (with_reducible repeat (first | apply Kd.C_drewN | apply Kd.C_drew)); exact HC8.out) HL9.out (by (with_reducible repeat (first | apply Kd.C_drewN | apply Kd.C_drew)); exact HC16.out) HL17.out (by (with_reducible repeat (first | apply Kd.C_drewN | apply Kd.C_drew)); exact HC22.out) HL23.out H129.out).mono ?_)
  rintro e w5 ⟨v28, rfl, hF29, hb⟩
  refine ⟨_, rfl, ?_⟩
  have HB2 := Aside0.mk (below_next (N := hi149) (by repeat (first | exact HB.out | apply pw_below_drewN | apply below_drew1)) (by exact HN.out) (by have := O142.out; have := O147.out; have := O150.out; omega) hb)
  replace F7 := Aside0.mk (show Kd.S (Kd.slice 3 (Kd.int .i64)) 27 w5 w.heap.size (fun k_ => (lo145 ≤ k_ ∧ k_ < hi146) ∧ True) (.slice A4 x10.length c5) x10 from Kd.S_below (by (with_reducible repeat (first | apply Kd.S_drewN | apply Kd.S_drew)); exact F7.out) hb)
  replace HC8 := Aside0.mk (show Kd.C (Kd.slice 3 (Kd.int .i64)) w5 A4 x10.length x10 from Kd.C_below (by (with_reducible repeat (first | apply Kd.C_drewN | apply Kd.C_drew)); exact HC8.out) hb)
  replace F15 := Aside0.mk (show Kd.R (Kd.int .i64) 3 w5 w.heap.size (fun k_ => (lo148 ≤ k_ ∧ k_ < hi149) ∧ some k_ ≠ (.slice A18 x25.length c19 : Value).ownBlock) (.slice A12 x24.length c13) x24 from Kd.R_below (by (with_reducible repeat (first | apply Kd.R_drewN | apply Kd.R_drew)); exact F15.out) hb)
  replace HC16 := Aside0.mk (show Kd.C (Kd.int .i64) w5 A12 x24.length x24 from Kd.C_below (by (with_reducible repeat (first | apply Kd.C_drewN | apply Kd.C_drew)); exact HC16.out) hb)
  replace F21 := Aside0.mk (show Kd.R (Kd.int .i64) 3 w5 w.heap.size (fun k_ => (lo148 ≤ k_ ∧ k_ < hi149) ∧ some k_ ≠ (.slice A12 x24.length c13 : Value).ownBlock) (.slice A18 x25.length c19) x25 from Kd.R_below (by (with_reducible repeat (first | apply Kd.R_drewN | apply Kd.R_drew)); exact F21.out) hb)
  replace HC22 := Aside0.mk (show Kd.C (Kd.int .i64) w5 A18 x25.length x25 from Kd.C_below (by (with_reducible repeat (first | apply Kd.C_drewN | apply Kd.C_drew)); exact HC22.out) hb)
  replace BK3 := Aside0.mk (show w5.heap[gb3]? = some (.cells #[.slice A1_0 l1_0.length c1_0, .slice A1_1 l1_1.length c1_1] 29 (0, 0)) from blk_below (by (with_reducible repeat (first | refine blk_drewN ?_ _ | refine blk_drew ?_)); exact BK3.out) hb)
  clear k3_0 k3_1
  have k3_0 : w5.cell? ⟨gb3, 0, none⟩ = some (.slice A1_0 l1_0.length c1_0) := (blk_cell BK3.out 0).trans rfl
  have k3_1 : w5.cell? ⟨gb3, 1, none⟩ = some (.slice A1_1 l1_1.length c1_1) := (blk_cell BK3.out 1).trans rfl
  obtain ⟨lo151, hi152, ho, hg⟩ := fresh_pts (N := hi149) hb (by exact HN.out)
  have O153 := Aside0.mk (show hi149 ≤ lo151 ∧ lo151 ≤ hi152 from ⟨ho.1, ho.2.1⟩)
  have hF29b := S_in hF29 hg (B := w.heap.size) (by have := O142.out; have := O147.out; have := O150.out; have := O153.out; omega)
  obtain ⟨A26, c27, rfl, hle, hC⟩ := Kd.S_reads hF29b
  have HC30 := Aside0.mk hC
  have HL31 := Aside0.mk hle
  clear hle hC
  have F29 := Aside0.mk (show Kd.S (Kd.slice 4 Kd.bool) 65 w5 w.heap.size (fun k_ => (lo151 ≤ k_ ∧ k_ < hi152) ∧ True) (.slice A26 x32.length c27) x32 from hF29b)
  clear hF29 hF29b
  replace HN := Aside0.mk (show hi152 ≤ w5.heap.size from ho.2.2)
  clear ho hg
  replace HB := HB2
  clear HB2 hb
  refine hK.out _ _ ⟨(blk_cell BK3.out 0).trans rfl, (blk_cell BK3.out 1).trans rfl⟩ (fun hHeld => ?_)
  clear hK K
  refine norm_ (a' := ?_) ?_ ?_
  rotate_left
  · show Act.put _ (some 32) _ = _
    simp only [Act.put, List.setIfInBounds_toArray, List.set_cons_zero, List.set_cons_succ, i64_w, i32_w]
    rfl
  refine pure_ (i := 5) (N := some 27) (v := ?_) (a' := ?_) #[true, true, true, true, true, true, false, false, false, false] rfl rfl (by kernel_rfl) (fun _ _ _ h => h) (Or.inl ⟨by rfl, ?_⟩) ?_ ?_
  rotate_left
  · intro w'
    go_simp
    with_reducible rfl
  rotate_left
  · simp only [Act.put, List.setIfInBounds_toArray, List.set_cons_zero, List.set_cons_succ, i64_w, i32_w]
    rfl
  refine pure_ (i := 6) (N := some 33) (v := ?_) (a' := ?_) #[true, true, true, true, true, true, true, false, false, false] rfl rfl (by kernel_rfl) (fun _ _ _ h => h) (Or.inl ⟨by rfl, ?_⟩) ?_ ?_
  rotate_left
  · intro w'
    go_simp
    with_reducible rfl
  rotate_left
  · simp only [Act.put, List.setIfInBounds_toArray, List.set_cons_zero, List.set_cons_succ, i64_w, i32_w]
    rfl
  refine pure_ (i := 7) (N := some 34) (v := ?_) (a' := ?_) #[true, true, true, true, true, true, true, true, false, false] rfl rfl (by kernel_rfl) (fun _ _ _ h => h) (Or.inl ⟨by rfl, ?_⟩) ?_ ?_
  rotate_left
  · intro w'
    go_simp
    with_reducible rfl
  rotate_left
  · simp only [Act.put, List.setIfInBounds_toArray, List.set_cons_zero, List.set_cons_succ, i64_w, i32_w]
    rfl
  refine pure_ (i := 8) (N := some 6) (v := ?_) (a' := ?_) #[true, true, true, true, true, true, true, true, true, false] rfl rfl (by kernel_rfl) (fun _ _ _ h => h) (Or.inl ⟨by rfl, ?_⟩) ?_ ?_
  rotate_left
  · intro w'
    go_simp
    with_reducible rfl
  rotate_left
  · simp only [Act.put, List.setIfInBounds_toArray, List.set_cons_zero, List.set_cons_succ, i64_w, i32_w]
    rfl
  refine pure_ (i := 9) (N := some 7) (v := ?_) (a' := ?_) #[true, true, true, true, true, true, true, true, true, true] rfl rfl (by kernel_rfl) (fun _ _ _ h => h) (Or.inl ⟨by rfl, ?_⟩) ?_ ?_
  rotate_left
  · intro w'
    go_simp
    with_reducible rfl
  rotate_left
  · simp only [Act.put, List.setIfInBounds_toArray, List.set_cons_zero, List.set_cons_succ, i64_w, i32_w]
    rfl
  refine done_ (by kernel_rfl) ?_
  go_wp2_with fail
  go_at_call 13
  refine (laws_toIntSS.calls k A0 c0 l0 x10 _ (Kd.C_below HR0.out (by repeat (first | exact HB.out | apply pw_below_drewN | apply below_drew1))) HL0.out H127.out).mono ?_
  rintro e w6 ⟨v36, rfl, hF37, hb⟩
  have HB2 := Aside0.mk (below_next (N := hi152) (by repeat (first | exact HB.out | apply pw_below_drewN | apply below_drew1)) (by exact HN.out) (by have := O142.out; have := O147.out; have := O150.out; have := O153.out; omega) hb)
  replace F29 := Aside0.mk (show Kd.S (Kd.slice 4 Kd.bool) 65 w6 w.heap.size (fun k_ => (lo151 ≤ k_ ∧ k_ < hi152) ∧ True) (.slice A26 x32.length c27) x32 from Kd.S_below (by (with_reducible repeat (first | apply Kd.S_drewN | apply Kd.S_drew)); exact F29.out) hb)
  replace HC30 := Aside0.mk (show Kd.C (Kd.slice 4 Kd.bool) w6 A26 x32.length x32 from Kd.C_below (by (with_reducible repeat (first | apply Kd.C_drewN | apply Kd.C_drew)); exact HC30.out) hb)
  replace BK3 := Aside0.mk (show w6.heap[gb3]? = some (.cells #[.slice A1_0 l1_0.length c1_0, .slice A1_1 l1_1.length c1_1] 29 (0, 0)) from blk_below (by (with_reducible repeat (first | refine blk_drewN ?_ _ | refine blk_drew ?_)); exact BK3.out) hb)
  clear k3_0 k3_1
  have k3_0 : w6.cell? ⟨gb3, 0, none⟩ = some (.slice A1_0 l1_0.length c1_0) := (blk_cell BK3.out 0).trans rfl
  have k3_1 : w6.cell? ⟨gb3, 1, none⟩ = some (.slice A1_1 l1_1.length c1_1) := (blk_cell BK3.out 1).trans rfl
  obtain ⟨lo154, hi155, ho, hg⟩ := fresh_pts (N := hi152) hb (by exact HN.out)
  have O156 := Aside0.mk (show hi152 ≤ lo154 ∧ lo154 ≤ hi155 from ⟨ho.1, ho.2.1⟩)
  have hF37b := S_in hF37 hg (B := w.heap.size) (by have := O142.out; have := O147.out; have := O150.out; have := O153.out; have := O156.out; omega)
  obtain ⟨A34, c35, rfl, hle, hC⟩ := Kd.S_reads hF37b
  have HC38 := Aside0.mk hC
  have HL39 := Aside0.mk hle
  clear hle hC
  have F37 := Aside0.mk (show Kd.S (Kd.slice 3 (Kd.int .i64)) 27 w6 w.heap.size (fun k_ => (lo154 ≤ k_ ∧ k_ < hi155) ∧ True) (.slice A34 x10.length c35) x10 from hF37b)
  clear hF37 hF37b
  replace HN := Aside0.mk (show hi155 ≤ w6.heap.size from ho.2.2)
  clear ho hg
  replace HB := HB2
  clear HB2 hb
  go_wp2_with fail
  go_at_call 18
  refine (laws_toPrices.calls k A1_0 c1_0 l1_0 A1_1 c1_1 l1_1 x24 x25 _ (Kd.C_below HR1_0.out (by repeat (first | exact HB.out | apply pw_below_drewN | apply below_drew1))) HL1_0.out (Kd.C_below HR1_1.out (by repeat (first | exact HB.out | apply pw_below_drewN | apply below_drew1))) HL1_1.out H128.out).mono ?_
  rintro e w7 ⟨v42, v48, rfl, hF43, hF49, hb⟩
  have HB2 := Aside0.mk (below_next (N := hi155) (by repeat (first | exact HB.out | apply pw_below_drewN | apply below_drew1)) (by exact HN.out) (by have := O142.out; have := O147.out; have := O150.out; have := O153.out; have := O156.out; omega) hb)
  replace F29 := Aside0.mk (show Kd.S (Kd.slice 4 Kd.bool) 65 w7 w.heap.size (fun k_ => (lo151 ≤ k_ ∧ k_ < hi152) ∧ True) (.slice A26 x32.length c27) x32 from Kd.S_below (by (with_reducible repeat (first | apply Kd.S_drewN | apply Kd.S_drew)); exact F29.out) hb)
  replace HC30 := Aside0.mk (show Kd.C (Kd.slice 4 Kd.bool) w7 A26 x32.length x32 from Kd.C_below (by (with_reducible repeat (first | apply Kd.C_drewN | apply Kd.C_drew)); exact HC30.out) hb)
  replace F37 := Aside0.mk (show Kd.S (Kd.slice 3 (Kd.int .i64)) 27 w7 w.heap.size (fun k_ => (lo154 ≤ k_ ∧ k_ < hi155) ∧ True) (.slice A34 x10.length c35) x10 from Kd.S_below (by (with_reducible repeat (first | apply Kd.S_drewN | apply Kd.S_drew)); exact F37.out) hb)
  replace HC38 := Aside0.mk (show Kd.C (Kd.slice 3 (Kd.int .i64)) w7 A34 x10.length x10 from Kd.C_below (by (with_reducible repeat (first | apply Kd.C_drewN | apply Kd.C_drew)); exact HC38.out) hb)
  replace BK3 := Aside0.mk (show w7.heap[gb3]? = some (.cells #[.slice A1_0 l1_0.length c1_0, .slice A1_1 l1_1.length c1_1] 29 (0, 0)) from blk_below (by (with_reducible repeat (first | refine blk_drewN ?_ _ | refine blk_drew ?_)); exact BK3.out) hb)
  clear k3_0 k3_1
  have k3_0 : w7.cell? ⟨gb3, 0, none⟩ = some (.slice A1_0 l1_0.length c1_0) := (blk_cell BK3.out 0).trans rfl
  have k3_1 : w7.cell? ⟨gb3, 1, none⟩ = some (.slice A1_1 l1_1.length c1_1) := (blk_cell BK3.out 1).trans rfl
  obtain ⟨lo157, hi158, ho, hg⟩ := fresh_pts (N := hi155) hb (by exact HN.out)
  have O159 := Aside0.mk (show hi155 ≤ lo157 ∧ lo157 ≤ hi158 from ⟨ho.1, ho.2.1⟩)
  have hF43b := R_in hF43 hg (B := w.heap.size) (by have := O142.out; have := O147.out; have := O150.out; have := O153.out; have := O156.out; have := O159.out; omega)
  have hF49b := R_in hF49 hg (B := w.heap.size) (by have := O142.out; have := O147.out; have := O150.out; have := O153.out; have := O156.out; have := O159.out; omega)
  obtain ⟨A40, c41, rfl, hle, hC⟩ := Kd.R_reads hF43b
  have HC44 := Aside0.mk hC
  have HL45 := Aside0.mk hle
  clear hle hC
  obtain ⟨A46, c47, rfl, hle, hC⟩ := Kd.R_reads hF49b
  have HC50 := Aside0.mk hC
  have HL51 := Aside0.mk hle
  clear hle hC
  have F43 := Aside0.mk (show Kd.R (Kd.int .i64) 3 w7 w.heap.size (fun k_ => (lo157 ≤ k_ ∧ k_ < hi158) ∧ some k_ ≠ (.slice A46 x25.length c47 : Value).ownBlock) (.slice A40 x24.length c41) x24 from hF43b)
  clear hF43 hF43b
  have F49 := Aside0.mk (show Kd.R (Kd.int .i64) 3 w7 w.heap.size (fun k_ => (lo157 ≤ k_ ∧ k_ < hi158) ∧ some k_ ≠ (.slice A40 x24.length c41 : Value).ownBlock) (.slice A46 x25.length c47) x25 from hF49b)
  clear hF49 hF49b
  replace HN := Aside0.mk (show hi158 ≤ w7.heap.size from ho.2.2)
  clear ho hg
  replace HB := HB2
  clear HB2 hb
  go_wp2_with ((with_reducible refine gate_dst (N := 9) rfl ?_); refine box_event ?hg (N := 9) ?hd (cs := #[.slice none 0 0, .slice none 0 0]) (t := 33) ?hr ?_; (case hd => rfl); (case hg => rfl); (case hr => first | (go_simp; done) | (go_simp; rfl)); intro gb9 hgb wb hbox hb0; have hz0 : wb.cell? ⟨gb9, 0, none⟩ = some (.slice none 0 0) := (blk_cell hbox 0).trans rfl; have hf0 := blk_frozen hbox 0; have hz1 : wb.cell? ⟨gb9, 1, none⟩ = some (.slice none 0 0) := (blk_cell hbox 1).trans rfl; have hf1 := blk_frozen hbox 1; have hb := below_set (g := gb9) (j := 1) (v := .slice A46 x25.length c47) (below_set (g := gb9) (j := 0) (v := .slice A40 x24.length c41) (hb0) (Nat.le_of_eq hgb.symm)) (Nat.le_of_eq hgb.symm); have BK9 := Aside0.mk (blk_set (blk_set (hbox) 0 (.slice A40 x24.length c41)) 1 (.slice A46 x25.length c47)); have HGB := Aside0.mk hgb; clear hgb hbox hb0)
  generalize ((wb).setCell ⟨gb9, 0, none⟩ (.slice A40 x24.length c41)).setCell ⟨gb9, 1, none⟩ (.slice A46 x25.length c47) = w8 at hb BK9 ⊢
  clear hz0 hf0 hz1 hf1
  replace BK9 := Aside0.mk (show w8.heap[gb9]? = some (.cells #[.slice A40 x24.length c41, .slice A46 x25.length c47] 33 (0, 0)) from BK9.out)
  have HB2 := Aside0.mk (below_next (N := hi158) (by repeat (first | exact HB.out | apply pw_below_drewN | apply below_drew1)) (by exact HN.out) (by have := O142.out; have := O147.out; have := O150.out; have := O153.out; have := O156.out; have := O159.out; omega) hb)
  replace F29 := Aside0.mk (show Kd.S (Kd.slice 4 Kd.bool) 65 w8 w.heap.size (fun k_ => (lo151 ≤ k_ ∧ k_ < hi152) ∧ True) (.slice A26 x32.length c27) x32 from Kd.S_below (by (with_reducible repeat (first | apply Kd.S_drewN | apply Kd.S_drew)); exact F29.out) hb)
  replace HC30 := Aside0.mk (show Kd.C (Kd.slice 4 Kd.bool) w8 A26 x32.length x32 from Kd.C_below (by (with_reducible repeat (first | apply Kd.C_drewN | apply Kd.C_drew)); exact HC30.out) hb)
  replace F37 := Aside0.mk (show Kd.S (Kd.slice 3 (Kd.int .i64)) 27 w8 w.heap.size (fun k_ => (lo154 ≤ k_ ∧ k_ < hi155) ∧ True) (.slice A34 x10.length c35) x10 from Kd.S_below (by (with_reducible repeat (first | apply Kd.S_drewN | apply Kd.S_drew)); exact F37.out) hb)
  replace HC38 := Aside0.mk (show Kd.C (Kd.slice 3 (Kd.int .i64)) w8 A34 x10.length x10 from Kd.C_below (by (with_reducible repeat (first | apply Kd.C_drewN | apply Kd.C_drew)); exact HC38.out) hb)
  replace F43 := Aside0.mk (show Kd.R (Kd.int .i64) 3 w8 w.heap.size (fun k_ => (lo157 ≤ k_ ∧ k_ < hi158) ∧ some k_ ≠ (.slice A46 x25.length c47 : Value).ownBlock) (.slice A40 x24.length c41) x24 from Kd.R_below (by (with_reducible repeat (first | apply Kd.R_drewN | apply Kd.R_drew)); exact F43.out) hb)
  replace HC44 := Aside0.mk (show Kd.C (Kd.int .i64) w8 A40 x24.length x24 from Kd.C_below (by (with_reducible repeat (first | apply Kd.C_drewN | apply Kd.C_drew)); exact HC44.out) hb)
  replace F49 := Aside0.mk (show Kd.R (Kd.int .i64) 3 w8 w.heap.size (fun k_ => (lo157 ≤ k_ ∧ k_ < hi158) ∧ some k_ ≠ (.slice A40 x24.length c41 : Value).ownBlock) (.slice A46 x25.length c47) x25 from Kd.R_below (by (with_reducible repeat (first | apply Kd.R_drewN | apply Kd.R_drew)); exact F49.out) hb)
  replace HC50 := Aside0.mk (show Kd.C (Kd.int .i64) w8 A46 x25.length x25 from Kd.C_below (by (with_reducible repeat (first | apply Kd.C_drewN | apply Kd.C_drew)); exact HC50.out) hb)
  replace BK3 := Aside0.mk (show w8.heap[gb3]? = some (.cells #[.slice A1_0 l1_0.length c1_0, .slice A1_1 l1_1.length c1_1] 29 (0, 0)) from blk_below (by (with_reducible repeat (first | refine blk_drewN ?_ _ | refine blk_drew ?_)); exact BK3.out) hb)
  clear k3_0 k3_1
  have k3_0 : w8.cell? ⟨gb3, 0, none⟩ = some (.slice A1_0 l1_0.length c1_0) := (blk_cell BK3.out 0).trans rfl
  have k3_1 : w8.cell? ⟨gb3, 1, none⟩ = some (.slice A1_1 l1_1.length c1_1) := (blk_cell BK3.out 1).trans rfl
  obtain ⟨lo160, hi161, ho, hg⟩ := fresh_pts (N := hi158) hb (by exact HN.out)
  have O162 := Aside0.mk (show hi158 ≤ lo160 ∧ lo160 ≤ hi161 from ⟨ho.1, ho.2.1⟩)
  have EG9 := Aside0.mk (show gb9 = lo160 ∧ gb9 < hi161 from ⟨HGB.out.trans hg.1.symm, by rw [hg.2]; exact blk_lt BK9.out⟩)
  replace HN := Aside0.mk (show hi161 ≤ w8.heap.size from ho.2.2)
  clear ho hg HGB
  replace HB := HB2
  clear HB2 hb
  have k9_0 : w8.cell? ⟨gb9, 0, none⟩ = some (.slice A40 x24.length c41) := (blk_cell BK9.out 0).trans rfl
  have k9_1 : w8.cell? ⟨gb9, 1, none⟩ = some (.slice A46 x25.length c47) := (blk_cell BK9.out 1).trans rfl
  go_wp2_with fail
  go_at_call 28
  refine (impl_TightAt.calls k A34 c35 x10 A40 c41 x24 A46 c47 x25 x32 x33 _ (by (with_reducible repeat (first | apply Kd.C_drewN | apply Kd.C_drew)); exact HC38.out) HL39.out (by (with_reducible repeat (first | apply Kd.C_drewN | apply Kd.C_drew)); exact HC44.out) HL45.out (by (with_reducible repeat (first | apply Kd.C_drewN | apply Kd.C_drew)); exact HC50.out) HL51.out H130.out).mono ?_
  rintro e w9 ⟨v54, rfl, hF55, hb⟩
  have HB2 := Aside0.mk (below_next (N := hi161) (by repeat (first | exact HB.out | apply pw_below_drewN | apply below_drew1)) (by exact HN.out) (by have := O142.out; have := O147.out; have := O150.out; have := O153.out; have := O156.out; have := O159.out; have := O162.out; omega) hb)
  replace F29 := Aside0.mk (show Kd.S (Kd.slice 4 Kd.bool) 65 w9 w.heap.size (fun k_ => (lo151 ≤ k_ ∧ k_ < hi152) ∧ True) (.slice A26 x32.length c27) x32 from Kd.S_below (by (with_reducible repeat (first | apply Kd.S_drewN | apply Kd.S_drew)); exact F29.out) hb)
  replace HC30 := Aside0.mk (show Kd.C (Kd.slice 4 Kd.bool) w9 A26 x32.length x32 from Kd.C_below (by (with_reducible repeat (first | apply Kd.C_drewN | apply Kd.C_drew)); exact HC30.out) hb)
  replace F37 := Aside0.mk (show Kd.S (Kd.slice 3 (Kd.int .i64)) 27 w9 w.heap.size (fun k_ => (lo154 ≤ k_ ∧ k_ < hi155) ∧ True) (.slice A34 x10.length c35) x10 from Kd.S_below (by (with_reducible repeat (first | apply Kd.S_drewN | apply Kd.S_drew)); exact F37.out) hb)
  replace HC38 := Aside0.mk (show Kd.C (Kd.slice 3 (Kd.int .i64)) w9 A34 x10.length x10 from Kd.C_below (by (with_reducible repeat (first | apply Kd.C_drewN | apply Kd.C_drew)); exact HC38.out) hb)
  replace F43 := Aside0.mk (show Kd.R (Kd.int .i64) 3 w9 w.heap.size (fun k_ => (lo157 ≤ k_ ∧ k_ < hi158) ∧ some k_ ≠ (.slice A46 x25.length c47 : Value).ownBlock) (.slice A40 x24.length c41) x24 from Kd.R_below (by (with_reducible repeat (first | apply Kd.R_drewN | apply Kd.R_drew)); exact F43.out) hb)
  replace HC44 := Aside0.mk (show Kd.C (Kd.int .i64) w9 A40 x24.length x24 from Kd.C_below (by (with_reducible repeat (first | apply Kd.C_drewN | apply Kd.C_drew)); exact HC44.out) hb)
  replace F49 := Aside0.mk (show Kd.R (Kd.int .i64) 3 w9 w.heap.size (fun k_ => (lo157 ≤ k_ ∧ k_ < hi158) ∧ some k_ ≠ (.slice A40 x24.length c41 : Value).ownBlock) (.slice A46 x25.length c47) x25 from Kd.R_below (by (with_reducible repeat (first | apply Kd.R_drewN | apply Kd.R_drew)); exact F49.out) hb)
  replace HC50 := Aside0.mk (show Kd.C (Kd.int .i64) w9 A46 x25.length x25 from Kd.C_below (by (with_reducible repeat (first | apply Kd.C_drewN | apply Kd.C_drew)); exact HC50.out) hb)
  replace BK3 := Aside0.mk (show w9.heap[gb3]? = some (.cells #[.slice A1_0 l1_0.length c1_0, .slice A1_1 l1_1.length c1_1] 29 (0, 0)) from blk_below (by (with_reducible repeat (first | refine blk_drewN ?_ _ | refine blk_drew ?_)); exact BK3.out) hb)
  clear k3_0 k3_1
  have k3_0 : w9.cell? ⟨gb3, 0, none⟩ = some (.slice A1_0 l1_0.length c1_0) := (blk_cell BK3.out 0).trans rfl
  have k3_1 : w9.cell? ⟨gb3, 1, none⟩ = some (.slice A1_1 l1_1.length c1_1) := (blk_cell BK3.out 1).trans rfl
  replace BK9 := Aside0.mk (show w9.heap[gb9]? = some (.cells #[.slice A40 x24.length c41, .slice A46 x25.length c47] 33 (0, 0)) from blk_below (by (with_reducible repeat (first | refine blk_drewN ?_ _ | refine blk_drew ?_)); exact BK9.out) hb)
  clear k9_0 k9_1
  have k9_0 : w9.cell? ⟨gb9, 0, none⟩ = some (.slice A40 x24.length c41) := (blk_cell BK9.out 0).trans rfl
  have k9_1 : w9.cell? ⟨gb9, 1, none⟩ = some (.slice A46 x25.length c47) := (blk_cell BK9.out 1).trans rfl
  obtain ⟨lo163, hi164, ho, hg⟩ := fresh_pts (N := hi161) hb (by exact HN.out)
  have O165 := Aside0.mk (show hi161 ≤ lo163 ∧ lo163 ≤ hi164 from ⟨ho.1, ho.2.1⟩)
  have hF55b := S_in hF55 hg (B := w.heap.size) (by have := O142.out; have := O147.out; have := O150.out; have := O153.out; have := O156.out; have := O159.out; have := O162.out; have := O165.out; omega)
  obtain ⟨A52, c53, rfl, hle, hC⟩ := Kd.S_reads hF55b
  have HC56 := Aside0.mk hC
  have HL57 := Aside0.mk hle
  clear hle hC
  have F55 := Aside0.mk (show Kd.S (Kd.slice 4 Kd.bool) 65 w9 w.heap.size (fun k_ => (lo163 ≤ k_ ∧ k_ < hi164) ∧ True) (.slice A52 x32.length c53) x32 from hF55b)
  clear hF55 hF55b
  replace HN := Aside0.mk (show hi164 ≤ w9.heap.size from ho.2.2)
  clear ho hg
  replace HB := HB2
  clear HB2 hb
  go_wp2_with fail
  go_at_call 29
  refine (laws_eqBoolSS.calls k A52 c53 x32 A26 c27 x32 true _ (by (with_reducible repeat (first | apply Kd.C_drewN | apply Kd.C_drew)); exact HC56.out) HL57.out (by (with_reducible repeat (first | apply Kd.C_drewN | apply Kd.C_drew)); exact HC30.out) HL31.out H131.out).mono ?_
  rintro e w_166 ⟨rfl, ⟨nd167, rfl⟩⟩
  go_wp2_with fail
  go_at_call 13
  refine (laws_toIntSS.calls k A0 c0 l0 x10 _ (Kd.C_below HR0.out (by repeat (first | exact HB.out | apply pw_below_drewN | apply below_drew1))) HL0.out H127.out).mono ?_
  rintro e w10 ⟨v61, rfl, hF62, hb⟩
  have HB2 := Aside0.mk (below_next (N := hi164) (by repeat (first | exact HB.out | apply pw_below_drewN | apply below_drew1)) (by exact HN.out) (by have := O142.out; have := O147.out; have := O150.out; have := O153.out; have := O156.out; have := O159.out; have := O162.out; have := O165.out; omega) hb)
  replace F29 := Aside0.mk (show Kd.S (Kd.slice 4 Kd.bool) 65 w10 w.heap.size (fun k_ => (lo151 ≤ k_ ∧ k_ < hi152) ∧ True) (.slice A26 x32.length c27) x32 from Kd.S_below (by (with_reducible repeat (first | apply Kd.S_drewN | apply Kd.S_drew)); exact F29.out) hb)
  replace HC30 := Aside0.mk (show Kd.C (Kd.slice 4 Kd.bool) w10 A26 x32.length x32 from Kd.C_below (by (with_reducible repeat (first | apply Kd.C_drewN | apply Kd.C_drew)); exact HC30.out) hb)
  replace F37 := Aside0.mk (show Kd.S (Kd.slice 3 (Kd.int .i64)) 27 w10 w.heap.size (fun k_ => (lo154 ≤ k_ ∧ k_ < hi155) ∧ True) (.slice A34 x10.length c35) x10 from Kd.S_below (by (with_reducible repeat (first | apply Kd.S_drewN | apply Kd.S_drew)); exact F37.out) hb)
  replace HC38 := Aside0.mk (show Kd.C (Kd.slice 3 (Kd.int .i64)) w10 A34 x10.length x10 from Kd.C_below (by (with_reducible repeat (first | apply Kd.C_drewN | apply Kd.C_drew)); exact HC38.out) hb)
  replace F43 := Aside0.mk (show Kd.R (Kd.int .i64) 3 w10 w.heap.size (fun k_ => (lo157 ≤ k_ ∧ k_ < hi158) ∧ some k_ ≠ (.slice A46 x25.length c47 : Value).ownBlock) (.slice A40 x24.length c41) x24 from Kd.R_below (by (with_reducible repeat (first | apply Kd.R_drewN | apply Kd.R_drew)); exact F43.out) hb)
  replace HC44 := Aside0.mk (show Kd.C (Kd.int .i64) w10 A40 x24.length x24 from Kd.C_below (by (with_reducible repeat (first | apply Kd.C_drewN | apply Kd.C_drew)); exact HC44.out) hb)
  replace F49 := Aside0.mk (show Kd.R (Kd.int .i64) 3 w10 w.heap.size (fun k_ => (lo157 ≤ k_ ∧ k_ < hi158) ∧ some k_ ≠ (.slice A40 x24.length c41 : Value).ownBlock) (.slice A46 x25.length c47) x25 from Kd.R_below (by (with_reducible repeat (first | apply Kd.R_drewN | apply Kd.R_drew)); exact F49.out) hb)
  replace HC50 := Aside0.mk (show Kd.C (Kd.int .i64) w10 A46 x25.length x25 from Kd.C_below (by (with_reducible repeat (first | apply Kd.C_drewN | apply Kd.C_drew)); exact HC50.out) hb)
  replace F55 := Aside0.mk (show Kd.S (Kd.slice 4 Kd.bool) 65 w10 w.heap.size (fun k_ => (lo163 ≤ k_ ∧ k_ < hi164) ∧ True) (.slice A52 x32.length c53) x32 from Kd.S_below (by (with_reducible repeat (first | apply Kd.S_drewN | apply Kd.S_drew)); exact F55.out) hb)
  replace HC56 := Aside0.mk (show Kd.C (Kd.slice 4 Kd.bool) w10 A52 x32.length x32 from Kd.C_below (by (with_reducible repeat (first | apply Kd.C_drewN | apply Kd.C_drew)); exact HC56.out) hb)
  replace BK3 := Aside0.mk (show w10.heap[gb3]? = some (.cells #[.slice A1_0 l1_0.length c1_0, .slice A1_1 l1_1.length c1_1] 29 (0, 0)) from blk_below (by (with_reducible repeat (first | refine blk_drewN ?_ _ | refine blk_drew ?_)); exact BK3.out) hb)
  clear k3_0 k3_1
  have k3_0 : w10.cell? ⟨gb3, 0, none⟩ = some (.slice A1_0 l1_0.length c1_0) := (blk_cell BK3.out 0).trans rfl
  have k3_1 : w10.cell? ⟨gb3, 1, none⟩ = some (.slice A1_1 l1_1.length c1_1) := (blk_cell BK3.out 1).trans rfl
  replace BK9 := Aside0.mk (show w10.heap[gb9]? = some (.cells #[.slice A40 x24.length c41, .slice A46 x25.length c47] 33 (0, 0)) from blk_below (by (with_reducible repeat (first | refine blk_drewN ?_ _ | refine blk_drew ?_)); exact BK9.out) hb)
  clear k9_0 k9_1
  have k9_0 : w10.cell? ⟨gb9, 0, none⟩ = some (.slice A40 x24.length c41) := (blk_cell BK9.out 0).trans rfl
  have k9_1 : w10.cell? ⟨gb9, 1, none⟩ = some (.slice A46 x25.length c47) := (blk_cell BK9.out 1).trans rfl
  obtain ⟨lo168, hi169, ho, hg⟩ := fresh_pts (N := hi164) hb (by exact HN.out)
  have O170 := Aside0.mk (show hi164 ≤ lo168 ∧ lo168 ≤ hi169 from ⟨ho.1, ho.2.1⟩)
  have hF62b := S_in hF62 hg (B := w.heap.size) (by have := O142.out; have := O147.out; have := O150.out; have := O153.out; have := O156.out; have := O159.out; have := O162.out; have := O165.out; have := O170.out; omega)
  obtain ⟨A59, c60, rfl, hle, hC⟩ := Kd.S_reads hF62b
  have HC63 := Aside0.mk hC
  have HL64 := Aside0.mk hle
  clear hle hC
  have F62 := Aside0.mk (show Kd.S (Kd.slice 3 (Kd.int .i64)) 27 w10 w.heap.size (fun k_ => (lo168 ≤ k_ ∧ k_ < hi169) ∧ True) (.slice A59 x10.length c60) x10 from hF62b)
  clear hF62 hF62b
  replace HN := Aside0.mk (show hi169 ≤ w10.heap.size from ho.2.2)
  clear ho hg
  replace HB := HB2
  clear HB2 hb
  go_wp2_with fail
  go_at_call 15
  refine (laws_eqIntSS.calls k A34 c35 x10 A59 c60 x10 true _ (by (with_reducible repeat (first | apply Kd.C_drewN | apply Kd.C_drew)); exact HC38.out) HL39.out (by (with_reducible repeat (first | apply Kd.C_drewN | apply Kd.C_drew)); exact HC63.out) HL64.out H132.out).mono ?_
  rintro e w_171 ⟨rfl, ⟨nd172, rfl⟩⟩
  clear F62 HC63
  go_wp2_with fail
  refine start_ (n := 5) (S := fun w' => w'.cell? ⟨gb3, 0, none⟩ = some (.slice A1_0 l1_0.length c1_0) ∧ w'.cell? ⟨gb3, 1, none⟩ = some (.slice A1_1 l1_1.length c1_1) ∧ w'.cell? ⟨gb9, 0, none⟩ = some (.slice A40 x24.length c41) ∧ w'.cell? ⟨gb9, 1, none⟩ = some (.slice A46 x25.length c47)) (ds := []) #[false, false, false, false, false] (by kernel_rfl) rfl rfl ⟨(blk_cell BK3.out 0).trans rfl, (blk_cell BK3.out 1).trans rfl, (blk_cell BK9.out 0).trans rfl, (blk_cell BK9.out 1).trans rfl⟩ (fun hHeld => ?_)
  refine take_ (i := 0) (N := some 59) (v := ?_) (a' := ?_) #[true, false, false, false, false] rfl rfl (by kernel_rfl) (fun _ _ _ h => h) (Or.inl ⟨by rfl, ?_⟩) hHeld ?_ ?_
  rotate_left
  · rintro w' ⟨s0, s1, s2, s3⟩
    go_simp
    with_reducible rfl
  rotate_left
  · simp only [Act.put, List.setIfInBounds_toArray, List.set_cons_zero, List.set_cons_succ, i64_w, i32_w]
    rfl
  refine take_ (i := 1) (N := some 60) (v := ?_) (a' := ?_) #[true, true, false, false, false] rfl rfl (by kernel_rfl) (fun _ _ _ h => h) (Or.inl ⟨by rfl, ?_⟩) hHeld ?_ ?_
  rotate_left
  · rintro w' ⟨s0, s1, s2, s3⟩
    go_simp
    with_reducible rfl
  rotate_left
  · simp only [Act.put, List.setIfInBounds_toArray, List.set_cons_zero, List.set_cons_succ, i64_w, i32_w]
    rfl
  refine one_ (i := 2) (N := some 61) #[true, true, true, false, false] rfl rfl (by kernel_rfl) (by decide) (fun K hK => ?_)
  refine goes_ Try.func18 (by kernel_rfl) rfl #[.agg #[.slice A1_0 l1_0.length c1_0, .slice A1_1 l1_1.length c1_1]] (by rfl) rfl rfl (by simp only [List.map_toArray, List.map_cons, List.map_nil]; rfl) ?_
  (with_reducible refine (laws_toPrices.calls k A1_0 c1_0 l1_0 A1_1 c1_1 l1_1 x24 x25 _ (Kd.C_below HR1_0.out (by repeat (first | exact HB.out | apply pw_below_drewN | apply below_drew1))) HL1_0.out (Kd.C_below HR1_1.out (by repeat (first | exact HB.out | apply pw_below_drewN | apply below_drew1))) HL1_1.out H128.out).mono ?_)
  rintro e w11 ⟨v68, v74, rfl, hF69, hF75, hb⟩
  refine ⟨_, rfl, ?_⟩
  have HB2 := Aside0.mk (below_next (N := hi169) (by repeat (first | exact HB.out | apply pw_below_drewN | apply below_drew1)) (by exact HN.out) (by have := O142.out; have := O147.out; have := O150.out; have := O153.out; have := O156.out; have := O159.out; have := O162.out; have := O165.out; have := O170.out; omega) hb)
  replace F29 := Aside0.mk (show Kd.S (Kd.slice 4 Kd.bool) 65 w11 w.heap.size (fun k_ => (lo151 ≤ k_ ∧ k_ < hi152) ∧ True) (.slice A26 x32.length c27) x32 from Kd.S_below (by (with_reducible repeat (first | apply Kd.S_drewN | apply Kd.S_drew)); exact F29.out) hb)
  replace HC30 := Aside0.mk (show Kd.C (Kd.slice 4 Kd.bool) w11 A26 x32.length x32 from Kd.C_below (by (with_reducible repeat (first | apply Kd.C_drewN | apply Kd.C_drew)); exact HC30.out) hb)
  replace F37 := Aside0.mk (show Kd.S (Kd.slice 3 (Kd.int .i64)) 27 w11 w.heap.size (fun k_ => (lo154 ≤ k_ ∧ k_ < hi155) ∧ True) (.slice A34 x10.length c35) x10 from Kd.S_below (by (with_reducible repeat (first | apply Kd.S_drewN | apply Kd.S_drew)); exact F37.out) hb)
  replace HC38 := Aside0.mk (show Kd.C (Kd.slice 3 (Kd.int .i64)) w11 A34 x10.length x10 from Kd.C_below (by (with_reducible repeat (first | apply Kd.C_drewN | apply Kd.C_drew)); exact HC38.out) hb)
  replace F43 := Aside0.mk (show Kd.R (Kd.int .i64) 3 w11 w.heap.size (fun k_ => (lo157 ≤ k_ ∧ k_ < hi158) ∧ some k_ ≠ (.slice A46 x25.length c47 : Value).ownBlock) (.slice A40 x24.length c41) x24 from Kd.R_below (by (with_reducible repeat (first | apply Kd.R_drewN | apply Kd.R_drew)); exact F43.out) hb)
  replace HC44 := Aside0.mk (show Kd.C (Kd.int .i64) w11 A40 x24.length x24 from Kd.C_below (by (with_reducible repeat (first | apply Kd.C_drewN | apply Kd.C_drew)); exact HC44.out) hb)
  replace F49 := Aside0.mk (show Kd.R (Kd.int .i64) 3 w11 w.heap.size (fun k_ => (lo157 ≤ k_ ∧ k_ < hi158) ∧ some k_ ≠ (.slice A40 x24.length c41 : Value).ownBlock) (.slice A46 x25.length c47) x25 from Kd.R_below (by (with_reducible repeat (first | apply Kd.R_drewN | apply Kd.R_drew)); exact F49.out) hb)
  replace HC50 := Aside0.mk (show Kd.C (Kd.int .i64) w11 A46 x25.length x25 from Kd.C_below (by (with_reducible repeat (first | apply Kd.C_drewN | apply Kd.C_drew)); exact HC50.out) hb)
  replace F55 := Aside0.mk (show Kd.S (Kd.slice 4 Kd.bool) 65 w11 w.heap.size (fun k_ => (lo163 ≤ k_ ∧ k_ < hi164) ∧ True) (.slice A52 x32.length c53) x32 from Kd.S_below (by (with_reducible repeat (first | apply Kd.S_drewN | apply Kd.S_drew)); exact F55.out) hb)
  replace HC56 := Aside0.mk (show Kd.C (Kd.slice 4 Kd.bool) w11 A52 x32.length x32 from Kd.C_below (by (with_reducible repeat (first | apply Kd.C_drewN | apply Kd.C_drew)); exact HC56.out) hb)
  replace BK3 := Aside0.mk (show w11.heap[gb3]? = some (.cells #[.slice A1_0 l1_0.length c1_0, .slice A1_1 l1_1.length c1_1] 29 (0, 0)) from blk_below (by (with_reducible repeat (first | refine blk_drewN ?_ _ | refine blk_drew ?_)); exact BK3.out) hb)
  clear k3_0 k3_1
  have k3_0 : w11.cell? ⟨gb3, 0, none⟩ = some (.slice A1_0 l1_0.length c1_0) := (blk_cell BK3.out 0).trans rfl
  have k3_1 : w11.cell? ⟨gb3, 1, none⟩ = some (.slice A1_1 l1_1.length c1_1) := (blk_cell BK3.out 1).trans rfl
  replace BK9 := Aside0.mk (show w11.heap[gb9]? = some (.cells #[.slice A40 x24.length c41, .slice A46 x25.length c47] 33 (0, 0)) from blk_below (by (with_reducible repeat (first | refine blk_drewN ?_ _ | refine blk_drew ?_)); exact BK9.out) hb)
  clear k9_0 k9_1
  have k9_0 : w11.cell? ⟨gb9, 0, none⟩ = some (.slice A40 x24.length c41) := (blk_cell BK9.out 0).trans rfl
  have k9_1 : w11.cell? ⟨gb9, 1, none⟩ = some (.slice A46 x25.length c47) := (blk_cell BK9.out 1).trans rfl
  obtain ⟨lo173, hi174, ho, hg⟩ := fresh_pts (N := hi169) hb (by exact HN.out)
  have O175 := Aside0.mk (show hi169 ≤ lo173 ∧ lo173 ≤ hi174 from ⟨ho.1, ho.2.1⟩)
  have hF69b := R_in hF69 hg (B := w.heap.size) (by have := O142.out; have := O147.out; have := O150.out; have := O153.out; have := O156.out; have := O159.out; have := O162.out; have := O165.out; have := O170.out; have := O175.out; omega)
  have hF75b := R_in hF75 hg (B := w.heap.size) (by have := O142.out; have := O147.out; have := O150.out; have := O153.out; have := O156.out; have := O159.out; have := O162.out; have := O165.out; have := O170.out; have := O175.out; omega)
  obtain ⟨A66, c67, rfl, hle, hC⟩ := Kd.R_reads hF69b
  have HC70 := Aside0.mk hC
  have HL71 := Aside0.mk hle
  clear hle hC
  obtain ⟨A72, c73, rfl, hle, hC⟩ := Kd.R_reads hF75b
  have HC76 := Aside0.mk hC
  have HL77 := Aside0.mk hle
  clear hle hC
  have F69 := Aside0.mk (show Kd.R (Kd.int .i64) 3 w11 w.heap.size (fun k_ => (lo173 ≤ k_ ∧ k_ < hi174) ∧ some k_ ≠ (.slice A72 x25.length c73 : Value).ownBlock) (.slice A66 x24.length c67) x24 from hF69b)
  clear hF69 hF69b
  have F75 := Aside0.mk (show Kd.R (Kd.int .i64) 3 w11 w.heap.size (fun k_ => (lo173 ≤ k_ ∧ k_ < hi174) ∧ some k_ ≠ (.slice A66 x24.length c67 : Value).ownBlock) (.slice A72 x25.length c73) x25 from hF75b)
  clear hF75 hF75b
  replace HN := Aside0.mk (show hi174 ≤ w11.heap.size from ho.2.2)
  clear ho hg
  replace HB := HB2
  clear HB2 hb
  refine hK.out _ _ ⟨(blk_cell BK3.out 0).trans rfl, (blk_cell BK3.out 1).trans rfl, (blk_cell BK9.out 0).trans rfl, (blk_cell BK9.out 1).trans rfl⟩ (fun hHeld => ?_)
  clear hK K
  refine norm_ (a' := ?_) ?_ ?_
  rotate_left
  · show Act.put _ (some 61) _ = _
    simp only [Act.put, List.setIfInBounds_toArray, List.set_cons_zero, List.set_cons_succ, i64_w, i32_w]
    rfl
  refine one_ (i := 3) (N := some 62) #[true, true, true, true, false] rfl rfl (by kernel_rfl) (by decide) (fun K hK => ?_)
  refine goes_ Try.func20 (by kernel_rfl) rfl #[.agg #[.slice A40 x24.length c41, .slice A46 x25.length c47], .agg #[.slice A66 x24.length c67, .slice A72 x25.length c73]] (by rfl) rfl rfl (by simp only [List.map_toArray, List.map_cons, List.map_nil]; rfl) ?_
  (with_reducible refine (laws_eqPrices.calls k A40 c41 x24 A46 c47 x25 A66 c67 x24 A72 c73 x25 true _ (by (with_reducible repeat (first | apply Kd.C_drewN | apply Kd.C_drew)); exact HC44.out) HL45.out (by (with_reducible repeat (first | apply Kd.C_drewN | apply Kd.C_drew)); exact HC50.out) HL51.out (by (with_reducible repeat (first | apply Kd.C_drewN | apply Kd.C_drew)); exact HC70.out) HL71.out (by (with_reducible repeat (first | apply Kd.C_drewN | apply Kd.C_drew)); exact HC76.out) HL77.out H133.out).mono ?_)
  rintro e w12 ⟨rfl, hb⟩
  refine ⟨_, rfl, ?_⟩
  have HB2 := Aside0.mk (below_next (N := hi174) (by repeat (first | exact HB.out | apply pw_below_drewN | apply below_drew1)) (by exact HN.out) (by have := O142.out; have := O147.out; have := O150.out; have := O153.out; have := O156.out; have := O159.out; have := O162.out; have := O165.out; have := O170.out; have := O175.out; omega) hb)
  replace F29 := Aside0.mk (show Kd.S (Kd.slice 4 Kd.bool) 65 w12 w.heap.size (fun k_ => (lo151 ≤ k_ ∧ k_ < hi152) ∧ True) (.slice A26 x32.length c27) x32 from Kd.S_below (by (with_reducible repeat (first | apply Kd.S_drewN | apply Kd.S_drew)); exact F29.out) hb)
  replace HC30 := Aside0.mk (show Kd.C (Kd.slice 4 Kd.bool) w12 A26 x32.length x32 from Kd.C_below (by (with_reducible repeat (first | apply Kd.C_drewN | apply Kd.C_drew)); exact HC30.out) hb)
  replace F37 := Aside0.mk (show Kd.S (Kd.slice 3 (Kd.int .i64)) 27 w12 w.heap.size (fun k_ => (lo154 ≤ k_ ∧ k_ < hi155) ∧ True) (.slice A34 x10.length c35) x10 from Kd.S_below (by (with_reducible repeat (first | apply Kd.S_drewN | apply Kd.S_drew)); exact F37.out) hb)
  replace HC38 := Aside0.mk (show Kd.C (Kd.slice 3 (Kd.int .i64)) w12 A34 x10.length x10 from Kd.C_below (by (with_reducible repeat (first | apply Kd.C_drewN | apply Kd.C_drew)); exact HC38.out) hb)
  replace F43 := Aside0.mk (show Kd.R (Kd.int .i64) 3 w12 w.heap.size (fun k_ => (lo157 ≤ k_ ∧ k_ < hi158) ∧ some k_ ≠ (.slice A46 x25.length c47 : Value).ownBlock) (.slice A40 x24.length c41) x24 from Kd.R_below (by (with_reducible repeat (first | apply Kd.R_drewN | apply Kd.R_drew)); exact F43.out) hb)
  replace HC44 := Aside0.mk (show Kd.C (Kd.int .i64) w12 A40 x24.length x24 from Kd.C_below (by (with_reducible repeat (first | apply Kd.C_drewN | apply Kd.C_drew)); exact HC44.out) hb)
  replace F49 := Aside0.mk (show Kd.R (Kd.int .i64) 3 w12 w.heap.size (fun k_ => (lo157 ≤ k_ ∧ k_ < hi158) ∧ some k_ ≠ (.slice A40 x24.length c41 : Value).ownBlock) (.slice A46 x25.length c47) x25 from Kd.R_below (by (with_reducible repeat (first | apply Kd.R_drewN | apply Kd.R_drew)); exact F49.out) hb)
  replace HC50 := Aside0.mk (show Kd.C (Kd.int .i64) w12 A46 x25.length x25 from Kd.C_below (by (with_reducible repeat (first | apply Kd.C_drewN | apply Kd.C_drew)); exact HC50.out) hb)
  replace F55 := Aside0.mk (show Kd.S (Kd.slice 4 Kd.bool) 65 w12 w.heap.size (fun k_ => (lo163 ≤ k_ ∧ k_ < hi164) ∧ True) (.slice A52 x32.length c53) x32 from Kd.S_below (by (with_reducible repeat (first | apply Kd.S_drewN | apply Kd.S_drew)); exact F55.out) hb)
  replace HC56 := Aside0.mk (show Kd.C (Kd.slice 4 Kd.bool) w12 A52 x32.length x32 from Kd.C_below (by (with_reducible repeat (first | apply Kd.C_drewN | apply Kd.C_drew)); exact HC56.out) hb)
  replace F69 := Aside0.mk (show Kd.R (Kd.int .i64) 3 w12 w.heap.size (fun k_ => (lo173 ≤ k_ ∧ k_ < hi174) ∧ some k_ ≠ (.slice A72 x25.length c73 : Value).ownBlock) (.slice A66 x24.length c67) x24 from Kd.R_below (by (with_reducible repeat (first | apply Kd.R_drewN | apply Kd.R_drew)); exact F69.out) hb)
  replace HC70 := Aside0.mk (show Kd.C (Kd.int .i64) w12 A66 x24.length x24 from Kd.C_below (by (with_reducible repeat (first | apply Kd.C_drewN | apply Kd.C_drew)); exact HC70.out) hb)
  replace F75 := Aside0.mk (show Kd.R (Kd.int .i64) 3 w12 w.heap.size (fun k_ => (lo173 ≤ k_ ∧ k_ < hi174) ∧ some k_ ≠ (.slice A66 x24.length c67 : Value).ownBlock) (.slice A72 x25.length c73) x25 from Kd.R_below (by (with_reducible repeat (first | apply Kd.R_drewN | apply Kd.R_drew)); exact F75.out) hb)
  replace HC76 := Aside0.mk (show Kd.C (Kd.int .i64) w12 A72 x25.length x25 from Kd.C_below (by (with_reducible repeat (first | apply Kd.C_drewN | apply Kd.C_drew)); exact HC76.out) hb)
  replace BK3 := Aside0.mk (show w12.heap[gb3]? = some (.cells #[.slice A1_0 l1_0.length c1_0, .slice A1_1 l1_1.length c1_1] 29 (0, 0)) from blk_below (by (with_reducible repeat (first | refine blk_drewN ?_ _ | refine blk_drew ?_)); exact BK3.out) hb)
  clear k3_0 k3_1
  have k3_0 : w12.cell? ⟨gb3, 0, none⟩ = some (.slice A1_0 l1_0.length c1_0) := (blk_cell BK3.out 0).trans rfl
  have k3_1 : w12.cell? ⟨gb3, 1, none⟩ = some (.slice A1_1 l1_1.length c1_1) := (blk_cell BK3.out 1).trans rfl
  replace BK9 := Aside0.mk (show w12.heap[gb9]? = some (.cells #[.slice A40 x24.length c41, .slice A46 x25.length c47] 33 (0, 0)) from blk_below (by (with_reducible repeat (first | refine blk_drewN ?_ _ | refine blk_drew ?_)); exact BK9.out) hb)
  clear k9_0 k9_1
  have k9_0 : w12.cell? ⟨gb9, 0, none⟩ = some (.slice A40 x24.length c41) := (blk_cell BK9.out 0).trans rfl
  have k9_1 : w12.cell? ⟨gb9, 1, none⟩ = some (.slice A46 x25.length c47) := (blk_cell BK9.out 1).trans rfl
  replace HN := Aside0.mk (show hi174 ≤ w12.heap.size from Nat.le_trans HN.out hb.size)
  replace HB := HB2
  clear HB2 hb
  refine hK.out _ _ ⟨(blk_cell BK3.out 0).trans rfl, (blk_cell BK3.out 1).trans rfl, (blk_cell BK9.out 0).trans rfl, (blk_cell BK9.out 1).trans rfl⟩ (fun hHeld => ?_)
  clear hK K
  refine norm_ (a' := ?_) ?_ ?_
  rotate_left
  · show Act.put _ (some 62) _ = _
    simp only [Act.put, List.setIfInBounds_toArray, List.set_cons_zero, List.set_cons_succ, i64_w, i32_w]
    rfl
  refine pure_ (i := 4) (N := some 63) (v := ?_) (a' := ?_) #[true, true, true, true, true] rfl rfl (by kernel_rfl) (fun _ _ _ h => h) (Or.inl ⟨by rfl, ?_⟩) ?_ ?_
  rotate_left
  · intro w'
    go_simp
    with_reducible rfl
  rotate_left
  · simp only [Act.put, List.setIfInBounds_toArray, List.set_cons_zero, List.set_cons_succ, i64_w, i32_w]
    rfl
  refine done_ (by kernel_rfl) ?_
  go_wp2_with fail
  go_at_call 25
  refine (laws_markIntSS.marks (fun k_ => (lo154 ≤ k_ ∧ k_ < hi155) ∧ True) (.slice A34 x10.length c35) x10 1 t78 x79 w _ (by repeat (first | exact HB.out | apply pw_below_drewN | apply below_drew1)) (by (with_reducible repeat (first | apply Kd.S_drewN | apply Kd.S_drew)); exact F37.out) H134.out).mono ?_
  rintro e w13 ⟨rfl, hF0, hB2, hK⟩
  replace F29 := Aside0.mk (show Kd.S (Kd.slice 4 Kd.bool) 65 w13 w.heap.size (fun k_ => (lo151 ≤ k_ ∧ k_ < hi152) ∧ True) (.slice A26 x32.length c27) x32 from Kd.S_kept (S := (fun k_ => (lo154 ≤ k_ ∧ k_ < hi155) ∧ True)) (by (with_reducible repeat (first | apply Kd.S_drewN | apply Kd.S_drew)); exact F29.out) hK (fun k_ h1_ h2_ => by have h3_ := h1_.1; have h4_ := h2_.1; have := O142.out; have := O147.out; have := O150.out; have := O153.out; have := O156.out; have := O159.out; have := O162.out; have := O165.out; have := O170.out; have := O175.out; omega))
  replace HC30 := Aside0.mk (show Kd.C (Kd.slice 4 Kd.bool) w13 A26 x32.length x32 from (Kd.S_reads' F29.out).2.2)
  replace F43 := Aside0.mk (show Kd.R (Kd.int .i64) 3 w13 w.heap.size (fun k_ => (lo157 ≤ k_ ∧ k_ < hi158) ∧ some k_ ≠ (.slice A46 x25.length c47 : Value).ownBlock) (.slice A40 x24.length c41) x24 from Kd.R_kept (S := (fun k_ => (lo154 ≤ k_ ∧ k_ < hi155) ∧ True)) (by (with_reducible repeat (first | apply Kd.R_drewN | apply Kd.R_drew)); exact F43.out) hK (fun k_ h1_ h2_ => by have h3_ := h1_.1; have h4_ := h2_.1; have := O142.out; have := O147.out; have := O150.out; have := O153.out; have := O156.out; have := O159.out; have := O162.out; have := O165.out; have := O170.out; have := O175.out; omega))
  replace HC44 := Aside0.mk (show Kd.C (Kd.int .i64) w13 A40 x24.length x24 from (Kd.R_reads' F43.out).2.2)
  replace F49 := Aside0.mk (show Kd.R (Kd.int .i64) 3 w13 w.heap.size (fun k_ => (lo157 ≤ k_ ∧ k_ < hi158) ∧ some k_ ≠ (.slice A40 x24.length c41 : Value).ownBlock) (.slice A46 x25.length c47) x25 from Kd.R_kept (S := (fun k_ => (lo154 ≤ k_ ∧ k_ < hi155) ∧ True)) (by (with_reducible repeat (first | apply Kd.R_drewN | apply Kd.R_drew)); exact F49.out) hK (fun k_ h1_ h2_ => by have h3_ := h1_.1; have h4_ := h2_.1; have := O142.out; have := O147.out; have := O150.out; have := O153.out; have := O156.out; have := O159.out; have := O162.out; have := O165.out; have := O170.out; have := O175.out; omega))
  replace HC50 := Aside0.mk (show Kd.C (Kd.int .i64) w13 A46 x25.length x25 from (Kd.R_reads' F49.out).2.2)
  replace F55 := Aside0.mk (show Kd.S (Kd.slice 4 Kd.bool) 65 w13 w.heap.size (fun k_ => (lo163 ≤ k_ ∧ k_ < hi164) ∧ True) (.slice A52 x32.length c53) x32 from Kd.S_kept (S := (fun k_ => (lo154 ≤ k_ ∧ k_ < hi155) ∧ True)) (by (with_reducible repeat (first | apply Kd.S_drewN | apply Kd.S_drew)); exact F55.out) hK (fun k_ h1_ h2_ => by have h3_ := h1_.1; have h4_ := h2_.1; have := O142.out; have := O147.out; have := O150.out; have := O153.out; have := O156.out; have := O159.out; have := O162.out; have := O165.out; have := O170.out; have := O175.out; omega))
  replace HC56 := Aside0.mk (show Kd.C (Kd.slice 4 Kd.bool) w13 A52 x32.length x32 from (Kd.S_reads' F55.out).2.2)
  replace BK3 := Aside0.mk (show w13.heap[gb3]? = some (.cells #[.slice A1_0 l1_0.length c1_0, .slice A1_1 l1_1.length c1_1] 29 (0, 0)) from blk_kept (by (with_reducible repeat (first | refine blk_drewN ?_ _ | refine blk_drew ?_)); exact BK3.out) hK (fun h_ => by have h3_ := h_.1; have := EG3.out; have := O142.out; have := O147.out; have := O150.out; have := O153.out; have := O156.out; have := O159.out; have := O162.out; have := O165.out; have := O170.out; have := O175.out; omega))
  clear k3_0 k3_1
  have k3_0 : w13.cell? ⟨gb3, 0, none⟩ = some (.slice A1_0 l1_0.length c1_0) := (blk_cell BK3.out 0).trans rfl
  have k3_1 : w13.cell? ⟨gb3, 1, none⟩ = some (.slice A1_1 l1_1.length c1_1) := (blk_cell BK3.out 1).trans rfl
  replace BK9 := Aside0.mk (show w13.heap[gb9]? = some (.cells #[.slice A40 x24.length c41, .slice A46 x25.length c47] 33 (0, 0)) from blk_kept (by (with_reducible repeat (first | refine blk_drewN ?_ _ | refine blk_drew ?_)); exact BK9.out) hK (fun h_ => by have h3_ := h_.1; have := EG9.out; have := O142.out; have := O147.out; have := O150.out; have := O153.out; have := O156.out; have := O159.out; have := O162.out; have := O165.out; have := O170.out; have := O175.out; omega))
  clear k9_0 k9_1
  have k9_0 : w13.cell? ⟨gb9, 0, none⟩ = some (.slice A40 x24.length c41) := (blk_cell BK9.out 0).trans rfl
  have k9_1 : w13.cell? ⟨gb9, 1, none⟩ = some (.slice A46 x25.length c47) := (blk_cell BK9.out 1).trans rfl
  clear F37 HC38
  replace HN := Aside0.mk (show hi174 ≤ w13.heap.size from Nat.le_trans HN.out hK.1)
  replace HB := Aside0.mk hB2
  clear hB2 hK hF0
  go_wp2_with fail
  go_at_call 30
  refine (laws_markPrices.calls k (fun k_ => some k_ = (.slice A40 x24.length c41 : Value).ownBlock) (.slice A40 x24.length c41) x24 (fun k_ => some k_ = (.slice A46 x25.length c47 : Value).ownBlock) (.slice A46 x25.length c47) x25 t78 t80 x81 x82 w _ (by repeat (first | exact HB.out | apply pw_below_drewN | apply below_drew1)) (Kd.R_tight rfl (by (with_reducible repeat (first | apply Kd.R_drewN | apply Kd.R_drew)); exact F43.out)) (fun k_ h1_ h2_ => (F43.out.1 k_ h1_.symm).2 h2_) (Kd.R_tight rfl (by (with_reducible repeat (first | apply Kd.R_drewN | apply Kd.R_drew)); exact F49.out)) (fun k_ h1_ h2_ => (F49.out.1 k_ h1_.symm).2 h2_) H135.out).mono ?_
  rintro e w14 ⟨rfl, hF0, hF1, hB2, hK⟩
  replace F29 := Aside0.mk (show Kd.S (Kd.slice 4 Kd.bool) 65 w14 w.heap.size (fun k_ => (lo151 ≤ k_ ∧ k_ < hi152) ∧ True) (.slice A26 x32.length c27) x32 from Kd.S_kept (S := (fun k_ => some k_ = (.slice A40 x24.length c41 : Value).ownBlock ∨ some k_ = (.slice A46 x25.length c47 : Value).ownBlock)) (by (with_reducible repeat (first | apply Kd.S_drewN | apply Kd.S_drew)); exact F29.out) hK (fun k_ h1_ h2_ => Or.elim h2_ (fun e_ => by have h3_ := h1_.1; have h4_ := (F43.out.1 k_ e_.symm).1; have := O142.out; have := O147.out; have := O150.out; have := O153.out; have := O156.out; have := O159.out; have := O162.out; have := O165.out; have := O170.out; have := O175.out; omega) (fun e_ => by have h3_ := h1_.1; have h4_ := (F49.out.1 k_ e_.symm).1; have := O142.out; have := O147.out; have := O150.out; have := O153.out; have := O156.out; have := O159.out; have := O162.out; have := O165.out; have := O170.out; have := O175.out; omega)))
  replace HC30 := Aside0.mk (show Kd.C (Kd.slice 4 Kd.bool) w14 A26 x32.length x32 from (Kd.S_reads' F29.out).2.2)
  replace F55 := Aside0.mk (show Kd.S (Kd.slice 4 Kd.bool) 65 w14 w.heap.size (fun k_ => (lo163 ≤ k_ ∧ k_ < hi164) ∧ True) (.slice A52 x32.length c53) x32 from Kd.S_kept (S := (fun k_ => some k_ = (.slice A40 x24.length c41 : Value).ownBlock ∨ some k_ = (.slice A46 x25.length c47 : Value).ownBlock)) (by (with_reducible repeat (first | apply Kd.S_drewN | apply Kd.S_drew)); exact F55.out) hK (fun k_ h1_ h2_ => Or.elim h2_ (fun e_ => by have h3_ := h1_.1; have h4_ := (F43.out.1 k_ e_.symm).1; have := O142.out; have := O147.out; have := O150.out; have := O153.out; have := O156.out; have := O159.out; have := O162.out; have := O165.out; have := O170.out; have := O175.out; omega) (fun e_ => by have h3_ := h1_.1; have h4_ := (F49.out.1 k_ e_.symm).1; have := O142.out; have := O147.out; have := O150.out; have := O153.out; have := O156.out; have := O159.out; have := O162.out; have := O165.out; have := O170.out; have := O175.out; omega)))
  replace HC56 := Aside0.mk (show Kd.C (Kd.slice 4 Kd.bool) w14 A52 x32.length x32 from (Kd.S_reads' F55.out).2.2)
  replace BK3 := Aside0.mk (show w14.heap[gb3]? = some (.cells #[.slice A1_0 l1_0.length c1_0, .slice A1_1 l1_1.length c1_1] 29 (0, 0)) from blk_kept (by (with_reducible repeat (first | refine blk_drewN ?_ _ | refine blk_drew ?_)); exact BK3.out) hK (fun h_ => Or.elim h_ (fun e_ => by have h4_ := (F43.out.1 gb3 e_.symm).1; have := EG3.out; have := O142.out; have := O147.out; have := O150.out; have := O153.out; have := O156.out; have := O159.out; have := O162.out; have := O165.out; have := O170.out; have := O175.out; omega) (fun e_ => by have h4_ := (F49.out.1 gb3 e_.symm).1; have := EG3.out; have := O142.out; have := O147.out; have := O150.out; have := O153.out; have := O156.out; have := O159.out; have := O162.out; have := O165.out; have := O170.out; have := O175.out; omega)))
  clear k3_0 k3_1
  have k3_0 : w14.cell? ⟨gb3, 0, none⟩ = some (.slice A1_0 l1_0.length c1_0) := (blk_cell BK3.out 0).trans rfl
  have k3_1 : w14.cell? ⟨gb3, 1, none⟩ = some (.slice A1_1 l1_1.length c1_1) := (blk_cell BK3.out 1).trans rfl
  replace BK9 := Aside0.mk (show w14.heap[gb9]? = some (.cells #[.slice A40 x24.length c41, .slice A46 x25.length c47] 33 (0, 0)) from blk_kept (by (with_reducible repeat (first | refine blk_drewN ?_ _ | refine blk_drew ?_)); exact BK9.out) hK (fun h_ => Or.elim h_ (fun e_ => by have h4_ := (F43.out.1 gb9 e_.symm).1; have := EG9.out; have := O142.out; have := O147.out; have := O150.out; have := O153.out; have := O156.out; have := O159.out; have := O162.out; have := O165.out; have := O170.out; have := O175.out; omega) (fun e_ => by have h4_ := (F49.out.1 gb9 e_.symm).1; have := EG9.out; have := O142.out; have := O147.out; have := O150.out; have := O153.out; have := O156.out; have := O159.out; have := O162.out; have := O165.out; have := O170.out; have := O175.out; omega)))
  clear k9_0 k9_1
  have k9_0 : w14.cell? ⟨gb9, 0, none⟩ = some (.slice A40 x24.length c41) := (blk_cell BK9.out 0).trans rfl
  have k9_1 : w14.cell? ⟨gb9, 1, none⟩ = some (.slice A46 x25.length c47) := (blk_cell BK9.out 1).trans rfl
  clear F43 HC44
  clear F49 HC50
  replace HN := Aside0.mk (show hi174 ≤ w14.heap.size from Nat.le_trans HN.out hK.1)
  replace HB := Aside0.mk hB2
  clear hB2 hK hF0 hF1
  have d179 : decide (t80 < 0) = false := decide_eq_false (by have := H136.out; omega)
  go_wp2_with fail
  go_at_call 29
  refine (laws_eqBoolSS.calls k A52 c53 x32 A26 c27 x32 true _ (by (with_reducible repeat (first | apply Kd.C_drewN | apply Kd.C_drew)); exact HC56.out) HL57.out (by (with_reducible repeat (first | apply Kd.C_drewN | apply Kd.C_drew)); exact HC30.out) HL31.out H131.out).mono ?_
  rintro e w_180 ⟨rfl, ⟨nd181, rfl⟩⟩
  go_wp2_with fail
  go_at_call 31
  refine (laws_markBoolSS.marks (fun k_ => (lo163 ≤ k_ ∧ k_ < hi164) ∧ True) (.slice A52 x32.length c53) x32 1 t83 x84 w _ (by repeat (first | exact HB.out | apply pw_below_drewN | apply below_drew1)) (by (with_reducible repeat (first | apply Kd.S_drewN | apply Kd.S_drew)); exact F55.out) H137.out).mono ?_
  rintro e w15 ⟨rfl, hF0, hB2, hK⟩
  replace F29 := Aside0.mk (show Kd.S (Kd.slice 4 Kd.bool) 65 w15 w.heap.size (fun k_ => (lo151 ≤ k_ ∧ k_ < hi152) ∧ True) (.slice A26 x32.length c27) x32 from Kd.S_kept (S := (fun k_ => (lo163 ≤ k_ ∧ k_ < hi164) ∧ True)) (by (with_reducible repeat (first | apply Kd.S_drewN | apply Kd.S_drew)); exact F29.out) hK (fun k_ h1_ h2_ => by have h3_ := h1_.1; have h4_ := h2_.1; have := O142.out; have := O147.out; have := O150.out; have := O153.out; have := O156.out; have := O159.out; have := O162.out; have := O165.out; have := O170.out; have := O175.out; omega))
  replace HC30 := Aside0.mk (show Kd.C (Kd.slice 4 Kd.bool) w15 A26 x32.length x32 from (Kd.S_reads' F29.out).2.2)
  replace BK3 := Aside0.mk (show w15.heap[gb3]? = some (.cells #[.slice A1_0 l1_0.length c1_0, .slice A1_1 l1_1.length c1_1] 29 (0, 0)) from blk_kept (by (with_reducible repeat (first | refine blk_drewN ?_ _ | refine blk_drew ?_)); exact BK3.out) hK (fun h_ => by have h3_ := h_.1; have := EG3.out; have := O142.out; have := O147.out; have := O150.out; have := O153.out; have := O156.out; have := O159.out; have := O162.out; have := O165.out; have := O170.out; have := O175.out; omega))
  clear k3_0 k3_1
  have k3_0 : w15.cell? ⟨gb3, 0, none⟩ = some (.slice A1_0 l1_0.length c1_0) := (blk_cell BK3.out 0).trans rfl
  have k3_1 : w15.cell? ⟨gb3, 1, none⟩ = some (.slice A1_1 l1_1.length c1_1) := (blk_cell BK3.out 1).trans rfl
  replace BK9 := Aside0.mk (show w15.heap[gb9]? = some (.cells #[.slice A40 x24.length c41, .slice A46 x25.length c47] 33 (0, 0)) from blk_kept (by (with_reducible repeat (first | refine blk_drewN ?_ _ | refine blk_drew ?_)); exact BK9.out) hK (fun h_ => by have h3_ := h_.1; have := EG9.out; have := O142.out; have := O147.out; have := O150.out; have := O153.out; have := O156.out; have := O159.out; have := O162.out; have := O165.out; have := O170.out; have := O175.out; omega))
  clear k9_0 k9_1
  have k9_0 : w15.cell? ⟨gb9, 0, none⟩ = some (.slice A40 x24.length c41) := (blk_cell BK9.out 0).trans rfl
  have k9_1 : w15.cell? ⟨gb9, 1, none⟩ = some (.slice A46 x25.length c47) := (blk_cell BK9.out 1).trans rfl
  replace F55 := Aside0.mk (show Kd.S (Kd.slice 4 Kd.bool) 65 w15 w.heap.size (fun k_ => (lo163 ≤ k_ ∧ k_ < hi164) ∧ True) (.slice A52 x32.length c53) x84 from hF0)
  replace HC56 := Aside0.mk (show Kd.C (Kd.slice 4 Kd.bool) w15 A52 x84.length x84 from (Kd.S_reads' F55.out).2.2)
  have HQ182 := Aside0.mk (show x32.length = x84.length from (Kd.S_reads' F55.out).1)
  replace HL57 := Aside0.mk (show x84.length ≤ c53 from by rw [← HQ182.out]; exact HL57.out)
  replace HN := Aside0.mk (show hi174 ≤ w15.heap.size from Nat.le_trans HN.out hK.1)
  replace HB := Aside0.mk hB2
  clear hB2 hK hF0
  go_wp2_with fail
  go_at_call 32
  refine calls_of_args (args' := #[.slice A52 x84.length c53, .int .i64 1]) (by rw [HQ182.out]) ?_
  refine (laws_heldBoolSS.calls k A52 c53 x84 1 t83 _ (by (with_reducible repeat (first | apply Kd.C_drewN | apply Kd.C_drew)); exact HC56.out) HL57.out H138.out).mono ?_
  rintro e w_183 ⟨rfl, ⟨nd184, rfl⟩⟩
  have d185 : decide (t83 < 0) = false := decide_eq_false (by have := H139.out; omega)
  go_wp2_with fail
  refine start_ (n := 10) (S := fun w' => w'.cell? ⟨gb3, 0, none⟩ = some (.slice A1_0 l1_0.length c1_0) ∧ w'.cell? ⟨gb3, 1, none⟩ = some (.slice A1_1 l1_1.length c1_1)) (ds := []) #[false, false, false, false, false, false, false, false, false, false] (by kernel_rfl) rfl rfl ⟨(blk_cell BK3.out 0).trans rfl, (blk_cell BK3.out 1).trans rfl⟩ (fun hHeld => ?_)
  refine pure_ (i := 0) (N := some 95) (v := ?_) (a' := ?_) #[true, false, false, false, false, false, false, false, false, false] rfl rfl (by kernel_rfl) (fun _ _ _ h => h) (Or.inl ⟨by rfl, ?_⟩) ?_ ?_
  rotate_left
  · intro w'
    go_simp
    with_reducible rfl
  rotate_left
  · simp only [Act.put, List.setIfInBounds_toArray, List.set_cons_zero, List.set_cons_succ, i64_w, i32_w]
    rfl
  refine take_ (i := 2) (N := some 97) (v := ?_) (a' := ?_) #[true, false, true, false, false, false, false, false, false, false] rfl rfl (by kernel_rfl) (fun _ _ _ h => h) (Or.inl ⟨by rfl, ?_⟩) hHeld ?_ ?_
  rotate_left
  · rintro w' ⟨s0, s1⟩
    go_simp
    with_reducible rfl
  rotate_left
  · simp only [Act.put, List.setIfInBounds_toArray, List.set_cons_zero, List.set_cons_succ, i64_w, i32_w]
    rfl
  refine one_ (i := 1) (N := some 96) #[true, true, true, false, false, false, false, false, false, false] rfl rfl (by kernel_rfl) (by decide) (fun K hK => ?_)
  refine goes_ Try.func13 (by kernel_rfl) rfl #[.slice A0 l0.length c0] (by rfl) rfl rfl (by simp only [List.map_toArray, List.map_cons, List.map_nil]; rfl) ?_
  (with_reducible refine (laws_toIntSS.calls k A0 c0 l0 x10 _ (Kd.C_below HR0.out (by repeat (first | exact HB.out | apply pw_below_drewN | apply below_drew1))) HL0.out H127.out).mono ?_)
  rintro e w16 ⟨v88, rfl, hF89, hb⟩
  refine ⟨_, rfl, ?_⟩
  have HB2 := Aside0.mk (below_next (N := hi174) (by repeat (first | exact HB.out | apply pw_below_drewN | apply below_drew1)) (by exact HN.out) (by have := O142.out; have := O147.out; have := O150.out; have := O153.out; have := O156.out; have := O159.out; have := O162.out; have := O165.out; have := O170.out; have := O175.out; omega) hb)
  replace F29 := Aside0.mk (show Kd.S (Kd.slice 4 Kd.bool) 65 w16 w.heap.size (fun k_ => (lo151 ≤ k_ ∧ k_ < hi152) ∧ True) (.slice A26 x32.length c27) x32 from Kd.S_below (by (with_reducible repeat (first | apply Kd.S_drewN | apply Kd.S_drew)); exact F29.out) hb)
  replace HC30 := Aside0.mk (show Kd.C (Kd.slice 4 Kd.bool) w16 A26 x32.length x32 from Kd.C_below (by (with_reducible repeat (first | apply Kd.C_drewN | apply Kd.C_drew)); exact HC30.out) hb)
  replace F55 := Aside0.mk (show Kd.S (Kd.slice 4 Kd.bool) 65 w16 w.heap.size (fun k_ => (lo163 ≤ k_ ∧ k_ < hi164) ∧ True) (.slice A52 x32.length c53) x84 from Kd.S_below (by (with_reducible repeat (first | apply Kd.S_drewN | apply Kd.S_drew)); exact F55.out) hb)
  replace HC56 := Aside0.mk (show Kd.C (Kd.slice 4 Kd.bool) w16 A52 x84.length x84 from Kd.C_below (by (with_reducible repeat (first | apply Kd.C_drewN | apply Kd.C_drew)); exact HC56.out) hb)
  replace BK3 := Aside0.mk (show w16.heap[gb3]? = some (.cells #[.slice A1_0 l1_0.length c1_0, .slice A1_1 l1_1.length c1_1] 29 (0, 0)) from blk_below (by (with_reducible repeat (first | refine blk_drewN ?_ _ | refine blk_drew ?_)); exact BK3.out) hb)
  clear k3_0 k3_1
  have k3_0 : w16.cell? ⟨gb3, 0, none⟩ = some (.slice A1_0 l1_0.length c1_0) := (blk_cell BK3.out 0).trans rfl
  have k3_1 : w16.cell? ⟨gb3, 1, none⟩ = some (.slice A1_1 l1_1.length c1_1) := (blk_cell BK3.out 1).trans rfl
  replace BK9 := Aside0.mk (show w16.heap[gb9]? = some (.cells #[.slice A40 x24.length c41, .slice A46 x25.length c47] 33 (0, 0)) from blk_below (by (with_reducible repeat (first | refine blk_drewN ?_ _ | refine blk_drew ?_)); exact BK9.out) hb)
  clear k9_0 k9_1
  have k9_0 : w16.cell? ⟨gb9, 0, none⟩ = some (.slice A40 x24.length c41) := (blk_cell BK9.out 0).trans rfl
  have k9_1 : w16.cell? ⟨gb9, 1, none⟩ = some (.slice A46 x25.length c47) := (blk_cell BK9.out 1).trans rfl
  obtain ⟨lo186, hi187, ho, hg⟩ := fresh_pts (N := hi174) hb (by exact HN.out)
  have O188 := Aside0.mk (show hi174 ≤ lo186 ∧ lo186 ≤ hi187 from ⟨ho.1, ho.2.1⟩)
  have hF89b := S_in hF89 hg (B := w.heap.size) (by have := O142.out; have := O147.out; have := O150.out; have := O153.out; have := O156.out; have := O159.out; have := O162.out; have := O165.out; have := O170.out; have := O175.out; have := O188.out; omega)
  obtain ⟨A86, c87, rfl, hle, hC⟩ := Kd.S_reads hF89b
  have HC90 := Aside0.mk hC
  have HL91 := Aside0.mk hle
  clear hle hC
  have F89 := Aside0.mk (show Kd.S (Kd.slice 3 (Kd.int .i64)) 27 w16 w.heap.size (fun k_ => (lo186 ≤ k_ ∧ k_ < hi187) ∧ True) (.slice A86 x10.length c87) x10 from hF89b)
  clear hF89 hF89b
  replace HN := Aside0.mk (show hi187 ≤ w16.heap.size from ho.2.2)
  clear ho hg
  replace HB := HB2
  clear HB2 hb
  refine hK.out _ _ ⟨(blk_cell BK3.out 0).trans rfl, (blk_cell BK3.out 1).trans rfl⟩ (fun hHeld => ?_)
  clear hK K
  refine norm_ (a' := ?_) ?_ ?_
  rotate_left
  · show Act.put _ (some 96) _ = _
    simp only [Act.put, List.setIfInBounds_toArray, List.set_cons_zero, List.set_cons_succ, i64_w, i32_w]
    rfl
  refine one_ (i := 3) (N := some 98) #[true, true, true, true, false, false, false, false, false, false] rfl rfl (by kernel_rfl) (by decide) (fun K hK => ?_)
  refine goes_ Try.func18 (by kernel_rfl) rfl #[.agg #[.slice A1_0 l1_0.length c1_0, .slice A1_1 l1_1.length c1_1]] (by rfl) rfl rfl (by simp only [List.map_toArray, List.map_cons, List.map_nil]; rfl) ?_
  (with_reducible refine (laws_toPrices.calls k A1_0 c1_0 l1_0 A1_1 c1_1 l1_1 x24 x25 _ (Kd.C_below HR1_0.out (by repeat (first | exact HB.out | apply pw_below_drewN | apply below_drew1))) HL1_0.out (Kd.C_below HR1_1.out (by repeat (first | exact HB.out | apply pw_below_drewN | apply below_drew1))) HL1_1.out H128.out).mono ?_)
  rintro e w17 ⟨v95, v101, rfl, hF96, hF102, hb⟩
  refine ⟨_, rfl, ?_⟩
  have HB2 := Aside0.mk (below_next (N := hi187) (by repeat (first | exact HB.out | apply pw_below_drewN | apply below_drew1)) (by exact HN.out) (by have := O142.out; have := O147.out; have := O150.out; have := O153.out; have := O156.out; have := O159.out; have := O162.out; have := O165.out; have := O170.out; have := O175.out; have := O188.out; omega) hb)
  replace F29 := Aside0.mk (show Kd.S (Kd.slice 4 Kd.bool) 65 w17 w.heap.size (fun k_ => (lo151 ≤ k_ ∧ k_ < hi152) ∧ True) (.slice A26 x32.length c27) x32 from Kd.S_below (by (with_reducible repeat (first | apply Kd.S_drewN | apply Kd.S_drew)); exact F29.out) hb)
  replace HC30 := Aside0.mk (show Kd.C (Kd.slice 4 Kd.bool) w17 A26 x32.length x32 from Kd.C_below (by (with_reducible repeat (first | apply Kd.C_drewN | apply Kd.C_drew)); exact HC30.out) hb)
  replace F55 := Aside0.mk (show Kd.S (Kd.slice 4 Kd.bool) 65 w17 w.heap.size (fun k_ => (lo163 ≤ k_ ∧ k_ < hi164) ∧ True) (.slice A52 x32.length c53) x84 from Kd.S_below (by (with_reducible repeat (first | apply Kd.S_drewN | apply Kd.S_drew)); exact F55.out) hb)
  replace HC56 := Aside0.mk (show Kd.C (Kd.slice 4 Kd.bool) w17 A52 x84.length x84 from Kd.C_below (by (with_reducible repeat (first | apply Kd.C_drewN | apply Kd.C_drew)); exact HC56.out) hb)
  replace F89 := Aside0.mk (show Kd.S (Kd.slice 3 (Kd.int .i64)) 27 w17 w.heap.size (fun k_ => (lo186 ≤ k_ ∧ k_ < hi187) ∧ True) (.slice A86 x10.length c87) x10 from Kd.S_below (by (with_reducible repeat (first | apply Kd.S_drewN | apply Kd.S_drew)); exact F89.out) hb)
  replace HC90 := Aside0.mk (show Kd.C (Kd.slice 3 (Kd.int .i64)) w17 A86 x10.length x10 from Kd.C_below (by (with_reducible repeat (first | apply Kd.C_drewN | apply Kd.C_drew)); exact HC90.out) hb)
  replace BK3 := Aside0.mk (show w17.heap[gb3]? = some (.cells #[.slice A1_0 l1_0.length c1_0, .slice A1_1 l1_1.length c1_1] 29 (0, 0)) from blk_below (by (with_reducible repeat (first | refine blk_drewN ?_ _ | refine blk_drew ?_)); exact BK3.out) hb)
  clear k3_0 k3_1
  have k3_0 : w17.cell? ⟨gb3, 0, none⟩ = some (.slice A1_0 l1_0.length c1_0) := (blk_cell BK3.out 0).trans rfl
  have k3_1 : w17.cell? ⟨gb3, 1, none⟩ = some (.slice A1_1 l1_1.length c1_1) := (blk_cell BK3.out 1).trans rfl
  replace BK9 := Aside0.mk (show w17.heap[gb9]? = some (.cells #[.slice A40 x24.length c41, .slice A46 x25.length c47] 33 (0, 0)) from blk_below (by (with_reducible repeat (first | refine blk_drewN ?_ _ | refine blk_drew ?_)); exact BK9.out) hb)
  clear k9_0 k9_1
  have k9_0 : w17.cell? ⟨gb9, 0, none⟩ = some (.slice A40 x24.length c41) := (blk_cell BK9.out 0).trans rfl
  have k9_1 : w17.cell? ⟨gb9, 1, none⟩ = some (.slice A46 x25.length c47) := (blk_cell BK9.out 1).trans rfl
  obtain ⟨lo189, hi190, ho, hg⟩ := fresh_pts (N := hi187) hb (by exact HN.out)
  have O191 := Aside0.mk (show hi187 ≤ lo189 ∧ lo189 ≤ hi190 from ⟨ho.1, ho.2.1⟩)
  have hF96b := R_in hF96 hg (B := w.heap.size) (by have := O142.out; have := O147.out; have := O150.out; have := O153.out; have := O156.out; have := O159.out; have := O162.out; have := O165.out; have := O170.out; have := O175.out; have := O188.out; have := O191.out; omega)
  have hF102b := R_in hF102 hg (B := w.heap.size) (by have := O142.out; have := O147.out; have := O150.out; have := O153.out; have := O156.out; have := O159.out; have := O162.out; have := O165.out; have := O170.out; have := O175.out; have := O188.out; have := O191.out; omega)
  obtain ⟨A93, c94, rfl, hle, hC⟩ := Kd.R_reads hF96b
  have HC97 := Aside0.mk hC
  have HL98 := Aside0.mk hle
  clear hle hC
  obtain ⟨A99, c100, rfl, hle, hC⟩ := Kd.R_reads hF102b
  have HC103 := Aside0.mk hC
  have HL104 := Aside0.mk hle
  clear hle hC
  have F96 := Aside0.mk (show Kd.R (Kd.int .i64) 3 w17 w.heap.size (fun k_ => (lo189 ≤ k_ ∧ k_ < hi190) ∧ some k_ ≠ (.slice A99 x25.length c100 : Value).ownBlock) (.slice A93 x24.length c94) x24 from hF96b)
  clear hF96 hF96b
  have F102 := Aside0.mk (show Kd.R (Kd.int .i64) 3 w17 w.heap.size (fun k_ => (lo189 ≤ k_ ∧ k_ < hi190) ∧ some k_ ≠ (.slice A93 x24.length c94 : Value).ownBlock) (.slice A99 x25.length c100) x25 from hF102b)
  clear hF102 hF102b
  replace HN := Aside0.mk (show hi190 ≤ w17.heap.size from ho.2.2)
  clear ho hg
  replace HB := HB2
  clear HB2 hb
  refine hK.out _ _ ⟨(blk_cell BK3.out 0).trans rfl, (blk_cell BK3.out 1).trans rfl⟩ (fun hHeld => ?_)
  clear hK K
  refine norm_ (a' := ?_) ?_ ?_
  rotate_left
  · show Act.put _ (some 98) _ = _
    simp only [Act.put, List.setIfInBounds_toArray, List.set_cons_zero, List.set_cons_succ, i64_w, i32_w]
    rfl
  refine one_ (i := 4) (N := some 99) #[true, true, true, true, true, false, false, false, false, false] rfl rfl (by kernel_rfl) (by decide) (fun K hK => ?_)
  refine goes_ Try.func28 (by kernel_rfl) rfl #[.slice A86 x10.length c87, .agg #[.slice A93 x24.length c94, .slice A99 x25.length c100]] (by rfl) rfl rfl (by simp only [List.map_toArray, List.map_cons, List.map_nil]; rfl) ?_
  (with_reducible refine (impl_TightAt.calls k A86 c87 x10 A93 c94 x24 A99 c100 x25 x32 x33 _ (by (with_reducible repeat (first | apply Kd.C_drewN | apply Kd.C_drew)); exact HC90.out) HL91.out (by (with_reducible repeat (first | apply Kd.C_drewN | apply Kd.C_drew)); exact HC97.out) HL98.out (by (with_reducible repeat (first | apply Kd.C_drewN | apply Kd.C_drew)); exact HC103.out) HL104.out H130.out).mono ?_)
  rintro e w18 ⟨v107, rfl, hF108, hb⟩
  refine ⟨_, rfl, ?_⟩
  have HB2 := Aside0.mk (below_next (N := hi190) (by repeat (first | exact HB.out | apply pw_below_drewN | apply below_drew1)) (by exact HN.out) (by have := O142.out; have := O147.out; have := O150.out; have := O153.out; have := O156.out; have := O159.out; have := O162.out; have := O165.out; have := O170.out; have := O175.out; have := O188.out; have := O191.out; omega) hb)
  replace F29 := Aside0.mk (show Kd.S (Kd.slice 4 Kd.bool) 65 w18 w.heap.size (fun k_ => (lo151 ≤ k_ ∧ k_ < hi152) ∧ True) (.slice A26 x32.length c27) x32 from Kd.S_below (by (with_reducible repeat (first | apply Kd.S_drewN | apply Kd.S_drew)); exact F29.out) hb)
  replace HC30 := Aside0.mk (show Kd.C (Kd.slice 4 Kd.bool) w18 A26 x32.length x32 from Kd.C_below (by (with_reducible repeat (first | apply Kd.C_drewN | apply Kd.C_drew)); exact HC30.out) hb)
  replace F55 := Aside0.mk (show Kd.S (Kd.slice 4 Kd.bool) 65 w18 w.heap.size (fun k_ => (lo163 ≤ k_ ∧ k_ < hi164) ∧ True) (.slice A52 x32.length c53) x84 from Kd.S_below (by (with_reducible repeat (first | apply Kd.S_drewN | apply Kd.S_drew)); exact F55.out) hb)
  replace HC56 := Aside0.mk (show Kd.C (Kd.slice 4 Kd.bool) w18 A52 x84.length x84 from Kd.C_below (by (with_reducible repeat (first | apply Kd.C_drewN | apply Kd.C_drew)); exact HC56.out) hb)
  replace F89 := Aside0.mk (show Kd.S (Kd.slice 3 (Kd.int .i64)) 27 w18 w.heap.size (fun k_ => (lo186 ≤ k_ ∧ k_ < hi187) ∧ True) (.slice A86 x10.length c87) x10 from Kd.S_below (by (with_reducible repeat (first | apply Kd.S_drewN | apply Kd.S_drew)); exact F89.out) hb)
  replace HC90 := Aside0.mk (show Kd.C (Kd.slice 3 (Kd.int .i64)) w18 A86 x10.length x10 from Kd.C_below (by (with_reducible repeat (first | apply Kd.C_drewN | apply Kd.C_drew)); exact HC90.out) hb)
  replace F96 := Aside0.mk (show Kd.R (Kd.int .i64) 3 w18 w.heap.size (fun k_ => (lo189 ≤ k_ ∧ k_ < hi190) ∧ some k_ ≠ (.slice A99 x25.length c100 : Value).ownBlock) (.slice A93 x24.length c94) x24 from Kd.R_below (by (with_reducible repeat (first | apply Kd.R_drewN | apply Kd.R_drew)); exact F96.out) hb)
  replace HC97 := Aside0.mk (show Kd.C (Kd.int .i64) w18 A93 x24.length x24 from Kd.C_below (by (with_reducible repeat (first | apply Kd.C_drewN | apply Kd.C_drew)); exact HC97.out) hb)
  replace F102 := Aside0.mk (show Kd.R (Kd.int .i64) 3 w18 w.heap.size (fun k_ => (lo189 ≤ k_ ∧ k_ < hi190) ∧ some k_ ≠ (.slice A93 x24.length c94 : Value).ownBlock) (.slice A99 x25.length c100) x25 from Kd.R_below (by (with_reducible repeat (first | apply Kd.R_drewN | apply Kd.R_drew)); exact F102.out) hb)
  replace HC103 := Aside0.mk (show Kd.C (Kd.int .i64) w18 A99 x25.length x25 from Kd.C_below (by (with_reducible repeat (first | apply Kd.C_drewN | apply Kd.C_drew)); exact HC103.out) hb)
  replace BK3 := Aside0.mk (show w18.heap[gb3]? = some (.cells #[.slice A1_0 l1_0.length c1_0, .slice A1_1 l1_1.length c1_1] 29 (0, 0)) from blk_below (by (with_reducible repeat (first | refine blk_drewN ?_ _ | refine blk_drew ?_)); exact BK3.out) hb)
  clear k3_0 k3_1
  have k3_0 : w18.cell? ⟨gb3, 0, none⟩ = some (.slice A1_0 l1_0.length c1_0) := (blk_cell BK3.out 0).trans rfl
  have k3_1 : w18.cell? ⟨gb3, 1, none⟩ = some (.slice A1_1 l1_1.length c1_1) := (blk_cell BK3.out 1).trans rfl
  replace BK9 := Aside0.mk (show w18.heap[gb9]? = some (.cells #[.slice A40 x24.length c41, .slice A46 x25.length c47] 33 (0, 0)) from blk_below (by (with_reducible repeat (first | refine blk_drewN ?_ _ | refine blk_drew ?_)); exact BK9.out) hb)
  clear k9_0 k9_1
  have k9_0 : w18.cell? ⟨gb9, 0, none⟩ = some (.slice A40 x24.length c41) := (blk_cell BK9.out 0).trans rfl
  have k9_1 : w18.cell? ⟨gb9, 1, none⟩ = some (.slice A46 x25.length c47) := (blk_cell BK9.out 1).trans rfl
  obtain ⟨lo192, hi193, ho, hg⟩ := fresh_pts (N := hi190) hb (by exact HN.out)
  have O194 := Aside0.mk (show hi190 ≤ lo192 ∧ lo192 ≤ hi193 from ⟨ho.1, ho.2.1⟩)
  have hF108b := S_in hF108 hg (B := w.heap.size) (by have := O142.out; have := O147.out; have := O150.out; have := O153.out; have := O156.out; have := O159.out; have := O162.out; have := O165.out; have := O170.out; have := O175.out; have := O188.out; have := O191.out; have := O194.out; omega)
  obtain ⟨A105, c106, rfl, hle, hC⟩ := Kd.S_reads hF108b
  have HC109 := Aside0.mk hC
  have HL110 := Aside0.mk hle
  clear hle hC
  have F108 := Aside0.mk (show Kd.S (Kd.slice 4 Kd.bool) 65 w18 w.heap.size (fun k_ => (lo192 ≤ k_ ∧ k_ < hi193) ∧ True) (.slice A105 x32.length c106) x32 from hF108b)
  clear hF108 hF108b
  replace HN := Aside0.mk (show hi193 ≤ w18.heap.size from ho.2.2)
  clear ho hg
  replace HB := HB2
  clear HB2 hb
  refine hK.out _ _ ⟨(blk_cell BK3.out 0).trans rfl, (blk_cell BK3.out 1).trans rfl⟩ (fun hHeld => ?_)
  clear hK K
  refine norm_ (a' := ?_) ?_ ?_
  rotate_left
  · show Act.put _ (some 99) _ = _
    simp only [Act.put, List.setIfInBounds_toArray, List.set_cons_zero, List.set_cons_succ, i64_w, i32_w]
    rfl
  refine pure_ (i := 5) (N := some 94) (v := ?_) (a' := ?_) #[true, true, true, true, true, true, false, false, false, false] rfl rfl (by kernel_rfl) (fun _ _ _ h => h) (Or.inl ⟨by rfl, ?_⟩) ?_ ?_
  rotate_left
  · intro w'
    go_simp
    with_reducible rfl
  rotate_left
  · simp only [Act.put, List.setIfInBounds_toArray, List.set_cons_zero, List.set_cons_succ, i64_w, i32_w]
    rfl
  refine pure_ (i := 6) (N := some 100) (v := ?_) (a' := ?_) #[true, true, true, true, true, true, true, false, false, false] rfl rfl (by kernel_rfl) (fun _ _ _ h => h) (Or.inl ⟨by rfl, ?_⟩) ?_ ?_
  rotate_left
  · intro w'
    go_simp
    with_reducible rfl
  rotate_left
  · simp only [Act.put, List.setIfInBounds_toArray, List.set_cons_zero, List.set_cons_succ, i64_w, i32_w]
    rfl
  refine pure_ (i := 7) (N := some 101) (v := ?_) (a' := ?_) #[true, true, true, true, true, true, true, true, false, false] rfl rfl (by kernel_rfl) (fun _ _ _ h => h) (Or.inl ⟨by rfl, ?_⟩) ?_ ?_
  rotate_left
  · intro w'
    go_simp
    with_reducible rfl
  rotate_left
  · simp only [Act.put, List.setIfInBounds_toArray, List.set_cons_zero, List.set_cons_succ, i64_w, i32_w]
    rfl
  refine pure_ (i := 8) (N := some 15) (v := ?_) (a' := ?_) #[true, true, true, true, true, true, true, true, true, false] rfl rfl (by kernel_rfl) (fun _ _ _ h => h) (Or.inl ⟨by rfl, ?_⟩) ?_ ?_
  rotate_left
  · intro w'
    go_simp
    with_reducible rfl
  rotate_left
  · simp only [Act.put, List.setIfInBounds_toArray, List.set_cons_zero, List.set_cons_succ, i64_w, i32_w]
    rfl
  refine pure_ (i := 9) (N := some 16) (v := ?_) (a' := ?_) #[true, true, true, true, true, true, true, true, true, true] rfl rfl (by kernel_rfl) (fun _ _ _ h => h) (Or.inl ⟨by rfl, ?_⟩) ?_ ?_
  rotate_left
  · intro w'
    go_simp
    with_reducible rfl
  rotate_left
  · simp only [Act.put, List.setIfInBounds_toArray, List.set_cons_zero, List.set_cons_succ, i64_w, i32_w]
    rfl
  refine done_ (by kernel_rfl) ?_
  go_wp2_with fail
  go_at_call 29
  refine (laws_eqBoolSS.calls k A105 c106 x32 A26 c27 x32 true _ (by (with_reducible repeat (first | apply Kd.C_drewN | apply Kd.C_drew)); exact HC109.out) HL110.out (by (with_reducible repeat (first | apply Kd.C_drewN | apply Kd.C_drew)); exact HC30.out) HL31.out H131.out).mono ?_
  rintro e w_195 ⟨rfl, ⟨nd196, rfl⟩⟩
  clear F29 HC30
  clear F108 HC109
  go_wp2_with fail
  go_at_call 32
  refine calls_of_args (args' := #[.slice A52 x84.length c53, .int .i64 1]) (by rw [HQ182.out]) ?_
  refine (laws_heldBoolSS.calls k A52 c53 x84 1 t83 _ (by (with_reducible repeat (first | apply Kd.C_drewN | apply Kd.C_drew)); exact HC56.out) HL57.out H138.out).mono ?_
  rintro e w_197 ⟨rfl, ⟨nd198, rfl⟩⟩
  clear F55 HC56
  have d199 : decide (t83 < 0) = false := decide_eq_false (by have := H139.out; omega)
  go_wp2_with fail
  go_ret
  exact ⟨rfl, (by repeat (first | exact HB.out | apply pw_below_drewN | apply below_drew1))⟩

/-- THE ONE PURE STATEMENT of laws_FnExactTightAt. -/
def laws_FnExactTightAt.Pure : Prop := ∀ (l0 : List (List Int)) (l1_0 : List Int) (l1_1 : List Int), (l0.length ≤ maxLen ∧ ∀ x ∈ l0, (x.length ≤ maxLen ∧ ∀ y_ ∈ x, (Lit.int .i64 y_).wf = true)) → (l1_0.length ≤ maxLen ∧ ∀ x ∈ l1_0, (Lit.int .i64 x).wf = true) → (l1_1.length ≤ maxLen ∧ ∀ x ∈ l1_1, (Lit.int .i64 x).wf = true) → ∃ k, laws_FnExactTightAt.f k l0 l1_0 l1_1 = some true
theorem laws_FnExactTightAt.walk (P : laws_FnExactTightAt.Pure) (A0 : Option Addr) (c0 : Nat) (l0 : List (List Int)) (A1_0 : Option Addr) (c1_0 : Nat) (l1_0 : List Int) (A1_1 : Option Addr) (c1_1 : Nat) (l1_1 : List Int) (w : World) (hr0 : Kd.C (Kd.slice 3 (Kd.int .i64)) w A0 l0.length l0) (hc0 : l0.length ≤ c0) (hw0 : (l0.length ≤ maxLen ∧ ∀ x ∈ l0, (x.length ≤ maxLen ∧ ∀ y_ ∈ x, (Lit.int .i64 y_).wf = true))) (hr1_0 : Kd.C (Kd.int .i64) w A1_0 l1_0.length l1_0) (hc1_0 : l1_0.length ≤ c1_0) (hw1_0 : (l1_0.length ≤ maxLen ∧ ∀ x ∈ l1_0, (Lit.int .i64 x).wf = true)) (hr1_1 : Kd.C (Kd.int .i64) w A1_1 l1_1.length l1_1) (hc1_1 : l1_1.length ≤ c1_1) (hw1_1 : (l1_1.length ≤ maxLen ∧ ∀ x ∈ l1_1, (Lit.int .i64 x).wf = true)) :
    Calls Try.prog 7 #[.slice A0 l0.length c0, .agg #[.slice A1_0 l1_0.length c1_0, .slice A1_1 l1_1.length c1_1]] w fun e w' => e = .returned (.bool true) ∧ Below w.heap.size w w' := by
  obtain ⟨k, h⟩ := P l0 l1_0 l1_1 hw0 hw1_0 hw1_1
  refine (laws_FnExactTightAt.calls k _ _ l0 _ _ l1_0 _ _ l1_1 true w hr0 hc0 hr1_0 hc1_0 hr1_1 hc1_1 h).mono ?_
  rintro e w' ⟨rfl, hd⟩
  exact ⟨rfl, hd⟩

end Go.Proofs.Ytdlblaihleojmaa.GLTightAt
