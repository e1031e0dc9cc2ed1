-- Written by a program of this session (gprint.py), over the kit's print: not trusted: Lean checks it.
import Derived.Test.YtabpgjejedjliaaDoorGLJoinSheets0
import Derived.Test.YtabpgjejedjliaaDoorGLJoinSheets3
namespace Go.Proofs.YtabpgjejedjliaaDoor.GLJoinSheets
open Go.RowKit Go.Proofs.YtabpgjejedjliaaDoorW.PrintWords Go.Proofs.YtabpgjejedjliaaDoorW.PrintLast Go.Proofs.YtabpgjejedjliaaDoorW.PrintMore Go.Proofs.YtabpgjejedjliaaDoorW.PrintOwn
attribute [local go_sem] max2_int min2_int max_two min_two max_three min_three max_four min_four   -- for this text's walks alone
set_option linter.unusedVariables false
set_option linter.unusedSimpArgs false

/-! ### spec_GoodGoods: function 37 -/
mutual
def spec_GoodGoods.l0 : Nat → List (S61) → List (S61) → Int → Int → Option (Bool)
 | 0, _, _, _, _ => none
 | k + 1, x0, x7, x8, x9 => if x9 < x8 then (if 0 ≤ x9 then (if x9 < (x7.length : Int) then ((spec_l3Name.f k ((rd_T61 x7 x9).f0)).bind fun t166 => (if t166 = true then ((spec_l1In.f ((rd_T61 x7 x9).f1) 1 100).bind fun t167 => (spec_GoodGoods.j1 k x0 x9 x7 x8 x9 (!t167) ((rd_T61 x7 x9).f0) ((rd_T61 x7 x9).f1))) else (spec_GoodGoods.j1 k x0 x9 x7 x8 x9 true ((rd_T61 x7 x9).f0) ((rd_T61 x7 x9).f1)))) else (none)) else (none)) else (some (decide ((x0.length : Int) ≤ 12)))
def spec_GoodGoods.j1 : Nat → List (S61) → Int → List (S61) → Int → Int → Bool → ByteArray → Int → Option (Bool)
 | 0, _, _, _, _, _, _, _, _ => none
 | k + 1, x0, x3, x7, x8, x9, x23, x166000, x166001 => if x23 = true then (some false) else (if 0 ≤ x3 then (if x3 ≤ (x0.length : Int) then ((some (x0.take (x3 : Int).toNat : List (S61))).bind fun y168 => (spec_GoodGoods.l1 k x0 x7 x8 x9 y168 (y168.length : Int) 0 x166000 x166001)) else (none)) else (none))
def spec_GoodGoods.l1 : Nat → List (S61) → List (S61) → Int → Int → List (S61) → Int → Int → ByteArray → Int → Option (Bool)
 | 0, _, _, _, _, _, _, _, _, _ => none
 | k + 1, x0, x7, x8, x9, x26, x27, x28, x166000, x166001 => if x28 < x27 then (if 0 ≤ x28 then (if x28 < (x26.length : Int) then (if ((rd_T61 x26 x28).f0).toList = x166000.toList then (some false) else (spec_GoodGoods.l1 k x0 x7 x8 x9 x26 x27 (wrap64 (x28 + 1)) x166000 x166001)) else (none)) else (none)) else (spec_GoodGoods.l0 k x0 x7 x8 (wrap64 (x9 + 1)))
end
def spec_GoodGoods.f (k : Nat) (l0 : List (S61)) : Option (Bool) := spec_GoodGoods.l0 k l0 l0 (l0.length : Int) 0
theorem spec_GoodGoods.mono_l : ∀ k, (∀ y0 y1 y2 y3, LeO (spec_GoodGoods.l0 k y0 y1 y2 y3) (spec_GoodGoods.l0 (k + 1) y0 y1 y2 y3)) ∧ (∀ y0 y1 y2 y3 y4 y5 y6 y7, LeO (spec_GoodGoods.j1 k y0 y1 y2 y3 y4 y5 y6 y7) (spec_GoodGoods.j1 (k + 1) y0 y1 y2 y3 y4 y5 y6 y7)) ∧ (∀ y0 y1 y2 y3 y4 y5 y6 y7 y8, LeO (spec_GoodGoods.l1 k y0 y1 y2 y3 y4 y5 y6 y7 y8) (spec_GoodGoods.l1 (k + 1) y0 y1 y2 y3 y4 y5 y6 y7 y8))
 | 0 => ⟨fun _ _ _ _ r h => by simp [spec_GoodGoods.l0] at h, fun _ _ _ _ _ _ _ _ r h => by simp [spec_GoodGoods.j1] at h, fun _ _ _ _ _ _ _ _ _ r h => by simp [spec_GoodGoods.l1] at h⟩
 | k + 1 => by
  obtain ⟨ih0, ih1, ih2⟩ := spec_GoodGoods.mono_l k; refine ⟨?_, ?_, ?_⟩
  ·intro y0 y1 y2 y3
   unfold spec_GoodGoods.l0
   repeat' first
   | (with_reducible exact ih0 _ _ _ _)
   | (with_reducible exact ih1 _ _ _ _ _ _ _ _)
   | (with_reducible exact ih2 _ _ _ _ _ _ _ _ _)
   | (with_reducible exact spec_l3Name.mono _ _)
   | (with_reducible exact LeO.refl _)
   | (with_reducible exact LeO.none _)
   | (with_reducible refine LeO.ite ?_ ?_)
   | (with_reducible refine LeO.bind ?_ (fun _ => ?_))
   | exact ih0 _ _ _ _
   | exact ih1 _ _ _ _ _ _ _ _
   | exact ih2 _ _ _ _ _ _ _ _ _
   | exact spec_l3Name.mono _ _
   | exact LeO.none _
   | refine LeO.ite ?_ ?_
   | refine LeO.bind ?_ (fun _ => ?_)
  ·intro y0 y1 y2 y3 y4 y5 y6 y7
   unfold spec_GoodGoods.j1
   repeat' first
   | (with_reducible exact ih0 _ _ _ _)
   | (with_reducible exact ih1 _ _ _ _ _ _ _ _)
   | (with_reducible exact ih2 _ _ _ _ _ _ _ _ _)
   | (with_reducible exact spec_l3Name.mono _ _)
   | (with_reducible exact LeO.refl _)
   | (with_reducible exact LeO.none _)
   | (with_reducible refine LeO.ite ?_ ?_)
   | (with_reducible refine LeO.bind ?_ (fun _ => ?_))
   | exact ih0 _ _ _ _
   | exact ih1 _ _ _ _ _ _ _ _
   | exact ih2 _ _ _ _ _ _ _ _ _
   | exact spec_l3Name.mono _ _
   | exact LeO.none _
   | refine LeO.ite ?_ ?_
   | refine LeO.bind ?_ (fun _ => ?_)
  ·intro y0 y1 y2 y3 y4 y5 y6 y7 y8
   unfold spec_GoodGoods.l1
   repeat' first
   | (with_reducible exact ih0 _ _ _ _)
   | (with_reducible exact ih1 _ _ _ _ _ _ _ _)
   | (with_reducible exact ih2 _ _ _ _ _ _ _ _ _)
   | (with_reducible exact spec_l3Name.mono _ _)
   | (with_reducible exact LeO.refl _)
   | (with_reducible exact LeO.none _)
   | (with_reducible refine LeO.ite ?_ ?_)
   | (with_reducible refine LeO.bind ?_ (fun _ => ?_))
   | exact ih0 _ _ _ _
   | exact ih1 _ _ _ _ _ _ _ _
   | exact ih2 _ _ _ _ _ _ _ _ _
   | exact spec_l3Name.mono _ _
   | exact LeO.none _
   | refine LeO.ite ?_ ?_
   | refine LeO.bind ?_ (fun _ => ?_)
theorem spec_GoodGoods.mono : ∀ a0 k, LeO (spec_GoodGoods.f k a0) (spec_GoodGoods.f (k + 1) a0) := by
 intro a0 k; obtain ⟨ih0, ih1, ih2⟩ := spec_GoodGoods.mono_l k; unfold spec_GoodGoods.f
 repeat' first
   | (with_reducible exact ih0 _ _ _ _)
   | (with_reducible exact ih1 _ _ _ _ _ _ _ _)
   | (with_reducible exact ih2 _ _ _ _ _ _ _ _ _)
   | (with_reducible exact spec_l3Name.mono _ _)
   | (with_reducible exact LeO.refl _)
   | (with_reducible exact LeO.none _)
   | (with_reducible refine LeO.ite ?_ ?_)
   | (with_reducible refine LeO.bind ?_ (fun _ => ?_))
   | exact ih0 _ _ _ _
   | exact ih1 _ _ _ _ _ _ _ _
   | exact ih2 _ _ _ _ _ _ _ _ _
   | exact spec_l3Name.mono _ _
   | exact LeO.none _
   | refine LeO.ite ?_ ?_
   | refine LeO.bind ?_ (fun _ => ?_)
set_option maxHeartbeats 8000000 in
set_option maxRecDepth 100000 in
theorem spec_GoodGoods.calls (k : Nat) (A0 : Option Addr) (c0 : Nat) (l0 : List (S61)) (r : Bool) (w : World) (hr0 : Kd.C k61 w A0 l0.length l0) (hc0 : l0.length ≤ c0) (h : spec_GoodGoods.f k l0 = some r) :
  Calls Tryd.prog 37 #[.slice A0 l0.length c0] w fun e w' => e = .returned (.bool r) ∧ Below w.heap.size w w' := by
 have hu61 := Tryd.underlying61; have HR0 := Aside0.mk hr0; have HC0 := Aside0.mk hc0; clear hr0 hc0; have HB := A_ (Below.refl w.heap.size w); have H : (spec_GoodGoods.l0 k l0 l0 (l0.length : Int) 0) = some r := h; clear h; have H' := Aside0.mk H; clear H; go_enter Tryd.func37, Tryd.ntmps37; go_wp2; go_loopg [9] k (fun kq v9 w' => ∃ (x9_1 : Int), v9 = .int .i64 x9_1 ∧ Aside0 (spec_GoodGoods.l0 kq l0 l0 (l0.length : Int) x9_1 = some r) ∧ Aside0 (kq ≤ k) ∧ Aside0 (Below w.heap.size w w'))
 case atStart => exact ⟨(0), (by first | rfl | (simp [*]; done)), H', ⟨Nat.le_refl _⟩, ⟨by repeat (first | (with_reducible first | exact HB.out | apply lA_ | apply lN_ | apply lD_) | exact HB.out)⟩⟩
 case round =>
  clear H'; obtain ⟨x9_1, rfl, HA, HK1, HB⟩ := hrel
  cases gk with
  | zero => exact absurd HA.out (by simp [spec_GoodGoods.l0])
  | succ k1 =>
   have H := HA.out; clear HA; simp only [spec_GoodGoods.l0] at H; by_cases c2 : x9_1 < (l0.length : Int)
   ·rw [if_pos c2] at H
    have c2b0 : decide (x9_1 < (l0.length : Int)) = true := decide_eq_true c2; clear c2; by_cases c3 : 0 ≤ x9_1
    case neg => rw [if_neg c3] at H; cases H
    rw [if_pos c3] at H; have c3b0 : decide (0 ≤ x9_1) = true := decide_eq_true c3; clear c3; by_cases c4 : x9_1 < (l0.length : Int)
    case neg => rw [if_neg c4] at H; cases H
    rw [if_pos c4] at H; have c4b0 : decide (x9_1 < (l0.length : Int)) = true := decide_eq_true c4; clear c4; have HC5 := Aside0.mk H; clear H; have p164 : 0 ≤ (x9_1 : Int) := of_decide_eq_true (by assumption); have q164 : x9_1 < (l0.length : Int) := of_decide_eq_true (by assumption); obtain ⟨ad164, e164, hx164_0, hx164_1⟩ := at_T61 HR0.out x9_1 p164 q164; cases e164; replace hx164_0 := (HB.out.cell (World.block_lt_of_cell? w _ hx164_0)).trans hx164_0; replace hx164_1 := (HB.out.cell (World.block_lt_of_cell? w _ hx164_1)).trans hx164_1; replace p164 := eq_true p164; replace q164 := eq_true q164
    go_upto_region 4 with (first | ((with_reducible refine gate_dst (N := 4) rfl ?_); refine box_event ?hg (N := 4) ?hd (cs := #[.string (⟨#[]⟩ : ByteArray), .int .i64 0]) (t := 61) ?hr ?_; (case hd => rfl); (case hg => rfl); (case hr => first | (go_simp; done) | (go_simp; rfl)); intro gba hg w6 hbox hb; have n0_ := A_ (below_step (zl_ HB.out) hb); have n1_ := A_ (hbox); have n2_ := A_ ((by rw [hg]; exact (below_size (zl_ HB.out)) : w.heap.size ≤ gba)); have n3_ := A_ ((by rw [hg]; exact (below_size (zl_ HB.out)) : w.heap.size ≤ gba)); clear HB; have HB := n0_; have BKa := n1_; have GWa := n2_; have GEa := n3_; clear n0_ n1_ n2_ n3_; clear hb hbox hg; have hcz7_0 : w6.cell? ⟨gba, 0, none⟩ = some (.string (⟨#[]⟩ : ByteArray)) := (blk_cell BKa.out 0).trans rfl; have hcz7_1 : w6.cell? ⟨gba, 1, none⟩ = some (.int .i64 0) := (blk_cell BKa.out 1).trans rfl; have hfz7_0 := blk_frozen BKa.out 0; have hfz7_1 := blk_frozen BKa.out 1))
    (try simp only [Act.put, sI_, sZ_, sS_]); go_cut [23] (fun v23 wc => ∃ (kq : Nat) (x23_4 : Bool), v23 = .bool x23_4 ∧ Aside0 (spec_GoodGoods.j1 kq l0 x9_1 l0 (l0.length : Int) x9_1 x23_4 ((rd_T61 l0 x9_1).f0) ((rd_T61 l0 x9_1).f1) = some r) ∧ Aside0 (kq ≤ k1) ∧ Aside0 (wc.heap[gba]? = some (.cells #[.string ((rd_T61 l0 x9_1).f0), .int .i64 ((rd_T61 l0 x9_1).f1)] 61 (0, 0))) ∧ Aside0 (Below w.heap.size w wc))
    case first =>
     have H := HC5.out; clear HC5; replace H := Option.bind_eq_some_iff.mp H; obtain ⟨t166, A80, H⟩ := H; replace H : (if t166 = true then ((spec_l1In.f ((rd_T61 l0 x9_1).f1) 1 100).bind fun t167 => (spec_GoodGoods.j1 k1 l0 x9_1 l0 (l0.length : Int) x9_1 (!t167) ((rd_T61 l0 x9_1).f0) ((rd_T61 l0 x9_1).f1))) else (spec_GoodGoods.j1 k1 l0 x9_1 l0 (l0.length : Int) x9_1 true ((rd_T61 l0 x9_1).f0) ((rd_T61 l0 x9_1).f1))) = some r := H; have A8 := Aside0.mk A80; clear A80; by_cases c9 : t166 = true
     ·subst c9
      have H1 : ((spec_l1In.f ((rd_T61 l0 x9_1).f1) 1 100).bind fun t167 => (spec_GoodGoods.j1 k1 l0 x9_1 l0 (l0.length : Int) x9_1 (!t167) ((rd_T61 l0 x9_1).f0) ((rd_T61 l0 x9_1).f1))) = some r := by rw [if_pos rfl] at H; exact H
      clear H; have H := H1; clear H1; replace H := Option.bind_eq_some_iff.mp H; obtain ⟨t167, A100, H⟩ := H; replace H : (spec_GoodGoods.j1 k1 l0 x9_1 l0 (l0.length : Int) x9_1 (!t167) ((rd_T61 l0 x9_1).f0) ((rd_T61 l0 x9_1).f1)) = some r := H; have A10 := Aside0.mk A100; clear A100; have H' := Aside0.mk H; clear H; have hcz11_0 : w6.cell? ⟨gba, 0, none⟩ = some (.string (⟨#[]⟩ : ByteArray)) := (blk_cell BKa.out 0).trans rfl; have hcz11_1 : w6.cell? ⟨gba, 1, none⟩ = some (.int .i64 0) := (blk_cell BKa.out 1).trans rfl; have hfz11_0 := blk_frozen BKa.out 0; have hfz11_1 := blk_frozen BKa.out 1; go_wp2_with (first | ((with_reducible refine gate_callee (f := 59) rfl ?_); refine goesL_ (some 16) rfl rfl Tryd.func59 (by kernel_rfl) rfl #[.string ((rd_T61 l0 x9_1).f0)] rfl (by (try simp only [List.map_toArray, List.map_cons, List.map_nil]); first | done | rfl | (simp only [List.length_drop, List.length_take]; rfl)) ?_; (with_reducible refine (spec_l3Name.calls k1 ((rd_T61 l0 x9_1).f0) true _ A8.out).mono ?_); rintro e w' ⟨rfl, ⟨nd, rfl⟩⟩; refine ⟨_, rfl, ?_⟩) | (go_at_call 36; (with_reducible refine (spec_l1In.calls ((rd_T61 l0 x9_1).f1) 1 100 t167 _ A10.out).mono ?_); rintro e w' ⟨rfl, ⟨nd, rfl⟩⟩)); go_meet
      case rel => exact ⟨_, (!t167), (by first | rfl | (simp [*]; done)), H', ⟨by have := HK1.out; first | omega | exact Nat.le_refl _⟩, ⟨by (with_reducible repeat (first | apply bN_ | apply bD_ | apply bA_)); refine blk_put (cs := #[.string ((rd_T61 l0 x9_1).f0), .int .i64 0]) ?_ 1 _ rfl; (with_reducible repeat (first | apply bN_ | apply bD_ | apply bA_)); refine blk_put (cs := #[.string (⟨#[]⟩ : ByteArray), .int .i64 0]) ?_ 0 _ rfl; (with_reducible repeat (first | apply bN_ | apply bD_ | apply bA_)); exact BKa.out⟩, ⟨by repeat (first | (with_reducible first | exact HB.out | apply lA_ | apply lN_ | apply lD_ | refine lT_ ?_ ‹_›) | exact HB.out)⟩⟩
     ·replace c9 := Bool.eq_false_iff.mpr c9
      subst c9
      have H1 : (spec_GoodGoods.j1 k1 l0 x9_1 l0 (l0.length : Int) x9_1 true ((rd_T61 l0 x9_1).f0) ((rd_T61 l0 x9_1).f1)) = some r := by rw [if_neg (show ¬ (false = true) by decide)] at H; exact H
      clear H; have H := H1; clear H1; have H' := Aside0.mk H; clear H; have hcz12_0 : w6.cell? ⟨gba, 0, none⟩ = some (.string (⟨#[]⟩ : ByteArray)) := (blk_cell BKa.out 0).trans rfl; have hcz12_1 : w6.cell? ⟨gba, 1, none⟩ = some (.int .i64 0) := (blk_cell BKa.out 1).trans rfl; have hfz12_0 := blk_frozen BKa.out 0; have hfz12_1 := blk_frozen BKa.out 1; go_wp2_with (first | ((with_reducible refine gate_callee (f := 59) rfl ?_); refine goesL_ (some 16) rfl rfl Tryd.func59 (by kernel_rfl) rfl #[.string ((rd_T61 l0 x9_1).f0)] rfl (by (try simp only [List.map_toArray, List.map_cons, List.map_nil]); first | done | rfl | (simp only [List.length_drop, List.length_take]; rfl)) ?_; (with_reducible refine (spec_l3Name.calls k1 ((rd_T61 l0 x9_1).f0) false _ A8.out).mono ?_); rintro e w' ⟨rfl, ⟨nd, rfl⟩⟩; refine ⟨_, rfl, ?_⟩)); go_meet
      case rel => exact ⟨_, (true), (by first | rfl | (simp [*]; done)), H', ⟨by have := HK1.out; first | omega | exact Nat.le_refl _⟩, ⟨by (with_reducible repeat (first | apply bN_ | apply bD_ | apply bA_)); refine blk_put (cs := #[.string ((rd_T61 l0 x9_1).f0), .int .i64 0]) ?_ 1 _ rfl; (with_reducible repeat (first | apply bN_ | apply bD_ | apply bA_)); refine blk_put (cs := #[.string (⟨#[]⟩ : ByteArray), .int .i64 0]) ?_ 0 _ rfl; (with_reducible repeat (first | apply bN_ | apply bD_ | apply bA_)); exact BKa.out⟩, ⟨by repeat (first | (with_reducible first | exact HB.out | apply lA_ | apply lN_ | apply lD_ | refine lT_ ?_ ‹_›) | exact HB.out)⟩⟩
    case rest =>
     clear HC5; (try clear hx1); (try clear c2b0); (try clear c3b0); (try clear c4b0); (try clear hcz11_0); (try clear hcz11_1); (try clear hcz12_0); (try clear hcz12_1); (try clear hcz7_0); (try clear hcz7_1); (try clear hfz11_0); (try clear hfz11_1); (try clear hfz12_0); (try clear hfz12_1); (try clear hfz7_0); (try clear hfz7_1); (try clear hx164_0); (try clear hx164_1); obtain ⟨kq, x23_4, rfl, HA, HJ4, BKa, HB⟩ := hcut
     cases kq with
     | zero => exact absurd HA.out (by simp [spec_GoodGoods.j1])
     | succ kj4 =>
      have H := HA.out; clear HA; simp only [spec_GoodGoods.j1] at H; by_cases c13 : x23_4 = true
      ·subst c13
       have H1 : (some false) = some r := by rw [if_pos rfl] at H; exact H
       clear H; have H := H1; clear H1; obtain rfl := Option.some.inj H; go_wp2; go_ret; exact ⟨by first | rfl | (simp [errW_none, errW_some] <;> rfl) | (simp [*, errW_none, errW_some] <;> rfl), by repeat (first | (with_reducible first | exact HB.out | apply lA_ | apply lN_ | apply lD_ | refine lT_ ?_ ‹_›) | exact HB.out)⟩
      ·replace c13 := Bool.eq_false_iff.mpr c13
       subst c13
       have H1 : (if 0 ≤ x9_1 then (if x9_1 ≤ (l0.length : Int) then ((some (l0.take (x9_1 : Int).toNat : List (S61))).bind fun y168 => (spec_GoodGoods.l1 kj4 l0 l0 (l0.length : Int) x9_1 y168 (y168.length : Int) 0 ((rd_T61 l0 x9_1).f0) ((rd_T61 l0 x9_1).f1))) else (none)) else (none)) = some r := by rw [if_neg (show ¬ (false = true) by decide)] at H; exact H
       clear H; have H := H1; clear H1; by_cases c14 : 0 ≤ x9_1
       case neg => rw [if_neg c14] at H; cases H
       rw [if_pos c14] at H; have c14b0 := eq_true c14; have c14b1 : decide (0 ≤ x9_1) = true := decide_eq_true c14; clear c14; by_cases c15 : x9_1 ≤ (l0.length : Int)
       case neg => rw [if_neg c15] at H; cases H
       rw [if_pos c15] at H; have c15b0 := eq_true c15; have c15b1 : decide (x9_1 ≤ (l0.length : Int)) = true := decide_eq_true c15; clear c15
       obtain ⟨y168, hy168⟩ : ∃ y_ : List (S61), y_ = (l0.take (x9_1 : Int).toNat) := ⟨_, rfl⟩
       replace H : (spec_GoodGoods.l1 kj4 l0 l0 (l0.length : Int) x9_1 y168 (y168.length : Int) 0 ((rd_T61 l0 x9_1).f0) ((rd_T61 l0 x9_1).f1)) = some r := by first | (rw [hy168]; with_reducible exact H) | (have H2_ := (Option.bind_some _ _).symm.trans H; rw [hy168]; with_reducible exact H2_) | (have H2_ := (Option.bind_some _ _).symm.trans H; with_reducible exact H2_) | with_reducible exact H | (rw [hy168]; exact H) | exact H
       have Ny168 := Aside0.mk hy168; clear hy168; have H' := Aside0.mk H; clear H; have q16 : (x9_1 : Int) ≤ ((l0.length : Int) : Int) := of_decide_eq_true (by assumption); obtain ⟨i016, hi016, _, hsz16, _⟩ := info_parts info61; have hroom16 : l0.length ≤ c0 := HC0.out; have hC16 : Kd.C k61 _ (some ad164) l0.length l0 := HR0.out; have hcut16 := cut_to (P := Tryd.prog) 29 61 .i64 Tryd.underlying29 hi016 (some ad164) l0.length c0 x9_1 (of_decide_eq_true (by assumption)) q16 hroom16; have hr16 := Kd.C_take (m := (x9_1 : Int).toNat) hC16 (by omega)
       have hy16 : y168.length = (x9_1 : Int).toNat := (by rw [Ny168.out, List.length_take]; omega)
       rw [← Ny168.out] at hr16; rw [← hy16] at hcut16; have HR171 := Aside0.mk hr16; have HC171 := A_ (show y168.length ≤ c0 from by omega); clear hr16 hC16 hroom16 hi016 hsz16; have KY16 := Aside0.mk hy16; clear hy16; replace q16 := eq_true q16; go_wp2; go_loopg [28] kj4 (fun kq v28 w' => ∃ (x28_3 : Int), v28 = .int .i64 x28_3 ∧ Aside0 (spec_GoodGoods.l1 kq l0 l0 (l0.length : Int) x9_1 y168 (y168.length : Int) x28_3 ((rd_T61 l0 x9_1).f0) ((rd_T61 l0 x9_1).f1) = some r) ∧ Aside0 (kq ≤ kj4) ∧ Aside0 (w'.heap[gba]? = some (.cells #[.string ((rd_T61 l0 x9_1).f0), .int .i64 ((rd_T61 l0 x9_1).f1)] 61 (0, 0))) ∧ Aside0 (Below w.heap.size w w'))
       case atStart => exact ⟨(0), (by first | rfl | (simp [*]; done)), H', ⟨Nat.le_refl _⟩, ⟨by (with_reducible repeat (first | apply bN_ | apply bD_ | apply bA_)); exact BKa.out⟩, ⟨by repeat (first | (with_reducible first | exact HB.out | apply lA_ | apply lN_ | apply lD_ | refine lT_ ?_ ‹_›) | exact HB.out)⟩⟩
       case round =>
        clear H'; (try clear hx1); (try clear c2b0); (try clear c3b0); (try clear c4b0); (try clear c14b0); (try clear c14b1); (try clear c15b0); (try clear c15b1); (try clear hx16); (try clear hcz11_0); (try clear hcz11_1); (try clear hcz12_0); (try clear hcz12_1); (try clear hcz7_0); (try clear hcz7_1); (try clear hfz11_0); (try clear hfz11_1); (try clear hfz12_0); (try clear hfz12_1); (try clear hfz7_0); (try clear hfz7_1); (try clear hx164_0); (try clear hx164_1); obtain ⟨x28_3, rfl, HA, HK3, BKa, HB⟩ := hrel
        cases gk with
        | zero => exact absurd HA.out (by simp [spec_GoodGoods.l1])
        | succ k3 =>
         have H := HA.out; clear HA; simp only [spec_GoodGoods.l1] at H; by_cases c17 : x28_3 < (y168.length : Int)
         ·rw [if_pos c17] at H
          have c17b0 : decide (x28_3 < (y168.length : Int)) = true := decide_eq_true c17; clear c17; by_cases c18 : 0 ≤ x28_3
          case neg => rw [if_neg c18] at H; cases H
          rw [if_pos c18] at H; have c18b0 : decide (0 ≤ x28_3) = true := decide_eq_true c18; clear c18; by_cases c19 : x28_3 < (y168.length : Int)
          case neg => rw [if_neg c19] at H; cases H
          rw [if_pos c19] at H; have c19b0 : decide (x28_3 < (y168.length : Int)) = true := decide_eq_true c19; clear c19; by_cases c20 : ((rd_T61 y168 x28_3).f0).toList = ((rd_T61 l0 x9_1).f0).toList
          ·rw [if_pos c20] at H
           have c20b0 : (((rd_T61 y168 x28_3).f0).toList == ((rd_T61 l0 x9_1).f0).toList) = true := beq_iff_eq.mpr c20; have c20b1 : (((rd_T61 y168 x28_3).f0).toList != ((rd_T61 l0 x9_1).f0).toList) = false := bne_eq_false_iff_eq.mpr c20; clear c20; obtain rfl := Option.some.inj H; have p172 : 0 ≤ (x28_3 : Int) := of_decide_eq_true (by assumption); have q172 : x28_3 < (y168.length : Int) := of_decide_eq_true (by assumption); obtain ⟨ad172, e172, hx172_0, hx172_1⟩ := at_T61 HR171.out x28_3 p172 q172
           obtain rfl : ad164 = ad172 := (by injection e172)
           replace hx172_0 := (HB.out.cell (World.block_lt_of_cell? w _ hx172_0)).trans hx172_0; replace hx172_1 := (HB.out.cell (World.block_lt_of_cell? w _ hx172_1)).trans hx172_1; replace p172 := eq_true p172; replace q172 := eq_true q172; go_wp2_with (first | ((with_reducible refine gate_dst (N := 6) rfl ?_); refine box_event ?hg (N := 6) ?hd (cs := #[.string (⟨#[]⟩ : ByteArray), .int .i64 0]) (t := 61) ?hr ?_; (case hd => rfl); (case hg => rfl); (case hr => first | (go_simp; done) | (go_simp; rfl)); intro gbb hg w21 hbox hb; have n0_ := A_ (blk_below (g := gba) (zb_ BKa.out) hb); have n1_ := A_ (below_step (zl_ HB.out) hb); have n2_ := A_ (hbox); have n3_ := A_ ((by rw [hg]; exact (below_size (zl_ HB.out)) : w.heap.size ≤ gbb)); have n4_ := A_ ((by rw [hg]; exact (below_size (zl_ HB.out)) : w.heap.size ≤ gbb)); have n5_ := A_ ((by rw [hg]; exact Nat.ne_of_lt (blk_lt (g := gba) (zb_ BKa.out)) : gba ≠ gbb)); have n6_ := A_ ((by rw [hg]; exact Nat.ne_of_gt (blk_lt (g := gba) (zb_ BKa.out)) : gbb ≠ gba)); clear BKa; clear HB; have BKa := n0_; have HB := n1_; have BKb := n2_; have GWb := n3_; have GEb := n4_; have NBab := n5_; have NBba := n6_; clear n0_ n1_ n2_ n3_ n4_ n5_ n6_; clear hb hbox hg; have hnb22 := NBba.out; have hnc22 := NBab.out; have hcz23_0 : w21.cell? ⟨gbb, 0, none⟩ = some (.string (⟨#[]⟩ : ByteArray)) := (blk_cell BKb.out 0).trans rfl; have hcz23_1 : w21.cell? ⟨gbb, 1, none⟩ = some (.int .i64 0) := (blk_cell BKb.out 1).trans rfl; have hfz23_0 := blk_frozen BKb.out 0; have hfz23_1 := blk_frozen BKb.out 1; have hcz24_0 : w21.cell? ⟨gba, 0, none⟩ = some (.string ((rd_T61 l0 x9_1).f0)) := (blk_cell BKa.out 0).trans rfl; have hcz24_1 : w21.cell? ⟨gba, 1, none⟩ = some (.int .i64 ((rd_T61 l0 x9_1).f1)) := (blk_cell BKa.out 1).trans rfl; have hfz24_0 := blk_frozen BKa.out 0; have hfz24_1 := blk_frozen BKa.out 1)); go_ret; exact ⟨by first | rfl | (simp [errW_none, errW_some] <;> rfl) | (simp [*, errW_none, errW_some] <;> rfl), by repeat (first | (with_reducible first | exact HB.out | apply lA_ | apply lN_ | apply lD_ | refine lT_ ?_ ‹_›) | exact HB.out)⟩
          ·rw [if_neg c20] at H
           have c20b0 : (((rd_T61 y168 x28_3).f0).toList == ((rd_T61 l0 x9_1).f0).toList) = false := beq_eq_false_iff_ne.mpr c20; have c20b1 : (((rd_T61 y168 x28_3).f0).toList != ((rd_T61 l0 x9_1).f0).toList) = true := bne_iff_ne.mpr c20; have H' := Aside0.mk H; clear H; have p172 : 0 ≤ (x28_3 : Int) := of_decide_eq_true (by assumption); have q172 : x28_3 < (y168.length : Int) := of_decide_eq_true (by assumption); obtain ⟨ad172, e172, hx172_0, hx172_1⟩ := at_T61 HR171.out x28_3 p172 q172
           obtain rfl : ad164 = ad172 := (by injection e172)
           replace hx172_0 := (HB.out.cell (World.block_lt_of_cell? w _ hx172_0)).trans hx172_0; replace hx172_1 := (HB.out.cell (World.block_lt_of_cell? w _ hx172_1)).trans hx172_1; replace p172 := eq_true p172; replace q172 := eq_true q172; go_wp2_with (first | ((with_reducible refine gate_dst (N := 6) rfl ?_); refine box_event ?hg (N := 6) ?hd (cs := #[.string (⟨#[]⟩ : ByteArray), .int .i64 0]) (t := 61) ?hr ?_; (case hd => rfl); (case hg => rfl); (case hr => first | (go_simp; done) | (go_simp; rfl)); intro gbb hg w25 hbox hb; have n0_ := A_ (blk_below (g := gba) (zb_ BKa.out) hb); have n1_ := A_ (below_step (zl_ HB.out) hb); have n2_ := A_ (hbox); have n3_ := A_ ((by rw [hg]; exact (below_size (zl_ HB.out)) : w.heap.size ≤ gbb)); have n4_ := A_ ((by rw [hg]; exact (below_size (zl_ HB.out)) : w.heap.size ≤ gbb)); have n5_ := A_ ((by rw [hg]; exact Nat.ne_of_lt (blk_lt (g := gba) (zb_ BKa.out)) : gba ≠ gbb)); have n6_ := A_ ((by rw [hg]; exact Nat.ne_of_gt (blk_lt (g := gba) (zb_ BKa.out)) : gbb ≠ gba)); clear BKa; clear HB; have BKa := n0_; have HB := n1_; have BKb := n2_; have GWb := n3_; have GEb := n4_; have NBab := n5_; have NBba := n6_; clear n0_ n1_ n2_ n3_ n4_ n5_ n6_; clear hb hbox hg; have hnb26 := NBba.out; have hnc26 := NBab.out; have hcz27_0 : w25.cell? ⟨gbb, 0, none⟩ = some (.string (⟨#[]⟩ : ByteArray)) := (blk_cell BKb.out 0).trans rfl; have hcz27_1 : w25.cell? ⟨gbb, 1, none⟩ = some (.int .i64 0) := (blk_cell BKb.out 1).trans rfl; have hfz27_0 := blk_frozen BKb.out 0; have hfz27_1 := blk_frozen BKb.out 1; have hcz28_0 : w25.cell? ⟨gba, 0, none⟩ = some (.string ((rd_T61 l0 x9_1).f0)) := (blk_cell BKa.out 0).trans rfl; have hcz28_1 : w25.cell? ⟨gba, 1, none⟩ = some (.int .i64 ((rd_T61 l0 x9_1).f1)) := (blk_cell BKa.out 1).trans rfl; have hfz28_0 := blk_frozen BKa.out 0; have hfz28_1 := blk_frozen BKa.out 1)); go_roundg k3
           case measure => have := HK1.out; have := HJ4.out; have := HK3.out; omega
           case rel => exact ⟨(wrap64 (x28_3 + 1)), (by first | rfl | (simp [*]; done)), H', ⟨by have := HK1.out; have := HJ4.out; have := HK3.out; omega⟩, ⟨by (with_reducible repeat (first | apply bN_ | apply bD_ | apply bA_)); refine blk_far ?_ NBab.out _; (with_reducible repeat (first | apply bN_ | apply bD_ | apply bA_)); refine blk_far ?_ NBab.out _; (with_reducible repeat (first | apply bN_ | apply bD_ | apply bA_)); exact BKa.out⟩, ⟨by repeat (first | (with_reducible first | exact HB.out | apply lA_ | apply lN_ | apply lD_ | refine lT_ ?_ ‹_›) | exact HB.out)⟩⟩
         ·rw [if_neg c17] at H
          have c17b0 : decide (x28_3 < (y168.length : Int)) = false := decide_eq_false c17; clear c17; have H' := Aside0.mk H; clear H; go_wp2; go_roundg k3
          case measure => have := HK1.out; have := HJ4.out; have := HK3.out; omega
          case rel => exact ⟨(wrap64 (x9_1 + 1)), (by first | rfl | (simp [*]; done)), H', ⟨by have := HK1.out; have := HJ4.out; have := HK3.out; omega⟩, ⟨by repeat (first | (with_reducible first | exact HB.out | apply lA_ | apply lN_ | apply lD_ | refine lT_ ?_ ‹_›) | exact HB.out)⟩⟩
   ·rw [if_neg c2] at H
    have c2b0 : decide (x9_1 < (l0.length : Int)) = false := decide_eq_false c2; clear c2; obtain rfl := Option.some.inj H; go_wp2; go_ret; exact ⟨by first | rfl | (simp [errW_none, errW_some] <;> rfl) | (simp [*, errW_none, errW_some] <;> rfl), by repeat (first | (with_reducible first | exact HB.out | apply lA_ | apply lN_ | apply lD_) | exact HB.out)⟩

/-! ### spec_GoodSheet: function 13 -/
def spec_GoodSheet.l0 : Nat → List (S68) → Int → Int → List (S61) → List (S68) → Option (Bool)
 | 0, _, _, _, _, _ => none
 | k + 1, x6, x7, x8, x175000, x175001 => if x8 < x7 then (if 0 ≤ x8 then (if x8 < (x6.length : Int) then (if ((rd_T68 x6 x8).f0) < 0 then (some false) else (if ((rd_T68 x6 x8).f0) ≥ (x175000.length : Int) then (some false) else ((spec_l1In.f ((rd_T68 x6 x8).f1) 1 99).bind fun t177 => (if t177 = true then (spec_GoodSheet.l0 k x6 x7 (wrap64 (x8 + 1)) x175000 x175001) else (some false))))) else (none)) else (none)) else ((spec_GoodGoods.f k x175000).bind fun t178 => (if t178 = true then (some (decide ((x175001.length : Int) ≤ 80))) else (some false)))
def spec_GoodSheet.f (k : Nat) (l0_0 : List (S61)) (l0_1 : List (S68)) : Option (Bool) := spec_GoodSheet.l0 k l0_1 (l0_1.length : Int) 0 l0_0 l0_1
theorem spec_GoodSheet.mono_l : ∀ k, (∀ y0 y1 y2 y3 y4, LeO (spec_GoodSheet.l0 k y0 y1 y2 y3 y4) (spec_GoodSheet.l0 (k + 1) y0 y1 y2 y3 y4))
 | 0 => fun _ _ _ _ _ r h => by simp [spec_GoodSheet.l0] at h
 | k + 1 => by
  have ih0 := spec_GoodSheet.mono_l k
  ·intro y0 y1 y2 y3 y4
   unfold spec_GoodSheet.l0
   repeat' first
   | (with_reducible exact ih0 _ _ _ _ _)
   | (with_reducible exact spec_GoodGoods.mono _ _)
   | (with_reducible exact LeO.refl _)
   | (with_reducible exact LeO.none _)
   | (with_reducible refine LeO.ite ?_ ?_)
   | (with_reducible refine LeO.bind ?_ (fun _ => ?_))
   | exact ih0 _ _ _ _ _
   | exact spec_GoodGoods.mono _ _
   | exact LeO.none _
   | refine LeO.ite ?_ ?_
   | refine LeO.bind ?_ (fun _ => ?_)
theorem spec_GoodSheet.mono : ∀ a0 a1 k, LeO (spec_GoodSheet.f k a0 a1) (spec_GoodSheet.f (k + 1) a0 a1) := by
 intro a0 a1 k; have ih0 := spec_GoodSheet.mono_l k; unfold spec_GoodSheet.f
 repeat' first
   | (with_reducible exact ih0 _ _ _ _ _)
   | (with_reducible exact spec_GoodGoods.mono _ _)
   | (with_reducible exact LeO.refl _)
   | (with_reducible exact LeO.none _)
   | (with_reducible refine LeO.ite ?_ ?_)
   | (with_reducible refine LeO.bind ?_ (fun _ => ?_))
   | exact ih0 _ _ _ _ _
   | exact spec_GoodGoods.mono _ _
   | exact LeO.none _
   | refine LeO.ite ?_ ?_
   | refine LeO.bind ?_ (fun _ => ?_)
set_option maxHeartbeats 8000000 in
set_option maxRecDepth 100000 in
theorem spec_GoodSheet.calls (k : Nat) (A0_0 : Option Addr) (c0_0 : Nat) (l0_0 : List (S61)) (A0_1 : Option Addr) (c0_1 : Nat) (l0_1 : List (S68)) (r : Bool) (w : World) (hr0_0 : Kd.C k61 w A0_0 l0_0.length l0_0) (hc0_0 : l0_0.length ≤ c0_0) (hr0_1 : Kd.C k68 w A0_1 l0_1.length l0_1) (hc0_1 : l0_1.length ≤ c0_1) (h : spec_GoodSheet.f k l0_0 l0_1 = some r) :
  Calls Tryd.prog 13 #[.agg #[.slice A0_0 l0_0.length c0_0, .slice A0_1 l0_1.length c0_1]] w fun e w' => e = .returned (.bool r) ∧ Below w.heap.size w w' := by
 have hu32 := Tryd.underlying32; have hu68 := Tryd.underlying68; have HR0_0 := Aside0.mk hr0_0; have HC0_0 := Aside0.mk hc0_0; clear hr0_0 hc0_0; have HR0_1 := Aside0.mk hr0_1; have HC0_1 := Aside0.mk hc0_1; clear hr0_1 hc0_1; have HB := A_ (Below.refl w.heap.size w); have H : (spec_GoodSheet.l0 k l0_1 (l0_1.length : Int) 0 l0_0 l0_1) = some r := h; clear h; have H' := Aside0.mk H; clear H; go_enter Tryd.func13, Tryd.ntmps13; go_wp2_with (first | ((with_reducible refine gate_dst (N := 1) rfl ?_); (try (refine gate_guard (by rfl) ?_; dsimp only)); refine box_event ?hg (N := 1) ?hd (cs := #[.slice A0_0 l0_0.length c0_0, .slice A0_1 l0_1.length c0_1]) (t := 32) ?hr ?_; (case hd => rfl); (case hg => rfl); (case hr => first | (go_simp; done) | (go_simp; rfl)); intro gbc hg w2 hbox hb; have n0_ := A_ (below_step (zl_ HB.out) hb); have n1_ := A_ (hbox); have n2_ := A_ ((by rw [hg]; exact (below_size (zl_ HB.out)) : w.heap.size ≤ gbc)); have n3_ := A_ ((by rw [hg]; exact (below_size (zl_ HB.out)) : w.heap.size ≤ gbc)); clear HB; have HB := n0_; have BKc := n1_; have GWc := n2_; have GEc := n3_; clear n0_ n1_ n2_ n3_; clear hb hbox hg; have hcz3_0 : w2.cell? ⟨gbc, 0, none⟩ = some (.slice A0_0 l0_0.length c0_0) := (blk_cell BKc.out 0).trans rfl; have hcz3_1 : w2.cell? ⟨gbc, 1, none⟩ = some (.slice A0_1 l0_1.length c0_1) := (blk_cell BKc.out 1).trans rfl; have hfz3_0 := blk_frozen BKc.out 0; have hfz3_1 := blk_frozen BKc.out 1)); go_loopg [8] k (fun kq v8 w' => ∃ (x8_1 : Int), v8 = .int .i64 x8_1 ∧ Aside0 (spec_GoodSheet.l0 kq l0_1 (l0_1.length : Int) x8_1 l0_0 l0_1 = some r) ∧ Aside0 (kq ≤ k) ∧ Aside0 (w'.heap[gbc]? = some (.cells #[(.slice A0_0 l0_0.length c0_0), (.slice A0_1 l0_1.length c0_1)] 32 (0, 0))) ∧ Aside0 (Below w.heap.size w w'))
 case atStart => exact ⟨(0), (by first | rfl | (simp [*]; done)), H', ⟨Nat.le_refl _⟩, ⟨by (with_reducible repeat (first | apply bN_ | apply bD_ | apply bA_)); exact BKc.out⟩, ⟨by repeat (first | (with_reducible first | exact HB.out | apply lA_ | apply lN_ | apply lD_ | refine lT_ ?_ ‹_›) | exact HB.out)⟩⟩
 case round =>
  clear H'; (try clear hcz3_0); (try clear hcz3_1); (try clear hfz3_0); (try clear hfz3_1); obtain ⟨x8_1, rfl, HA, HK1, BKc, HB⟩ := hrel
  cases gk with
  | zero => exact absurd HA.out (by simp [spec_GoodSheet.l0])
  | succ k1 =>
   have H := HA.out; clear HA; simp only [spec_GoodSheet.l0] at H; by_cases c4 : x8_1 < (l0_1.length : Int)
   ·rw [if_pos c4] at H
    have c4b0 : decide (x8_1 < (l0_1.length : Int)) = true := decide_eq_true c4; clear c4; by_cases c5 : 0 ≤ x8_1
    case neg => rw [if_neg c5] at H; cases H
    rw [if_pos c5] at H; have c5b0 : decide (0 ≤ x8_1) = true := decide_eq_true c5; clear c5; by_cases c6 : x8_1 < (l0_1.length : Int)
    case neg => rw [if_neg c6] at H; cases H
    rw [if_pos c6] at H; have c6b0 : decide (x8_1 < (l0_1.length : Int)) = true := decide_eq_true c6; clear c6; by_cases c7 : ((rd_T68 l0_1 x8_1).f0) < 0
    ·rw [if_pos c7] at H
     have c7b0 : decide (((rd_T68 l0_1 x8_1).f0) < 0) = true := decide_eq_true c7; clear c7; obtain rfl := Option.some.inj H; have p175 : 0 ≤ (x8_1 : Int) := of_decide_eq_true (by assumption); have q175 : x8_1 < (l0_1.length : Int) := of_decide_eq_true (by assumption); obtain ⟨ad175, e175, hx175_0, hx175_1⟩ := at_T68 HR0_1.out x8_1 p175 q175; cases e175; replace hx175_0 := (HB.out.cell (World.block_lt_of_cell? w _ hx175_0)).trans hx175_0; replace hx175_1 := (HB.out.cell (World.block_lt_of_cell? w _ hx175_1)).trans hx175_1; replace p175 := eq_true p175; replace q175 := eq_true q175; go_wp2_with (first | ((with_reducible refine gate_dst (N := 4) rfl ?_); (try (refine gate_guard (by rfl) ?_; dsimp only)); refine box_event ?hg (N := 4) ?hd (cs := #[.int .i64 0, .int .i64 0]) (t := 68) ?hr ?_; (case hd => rfl); (case hg => rfl); (case hr => first | (go_simp; done) | (go_simp; rfl)); intro gbd hg w8 hbox hb; have n0_ := A_ (blk_below (g := gbc) (zb_ BKc.out) hb); have n1_ := A_ (below_step (zl_ HB.out) hb); have n2_ := A_ (hbox); have n3_ := A_ ((by rw [hg]; exact (below_size (zl_ HB.out)) : w.heap.size ≤ gbd)); have n4_ := A_ ((by rw [hg]; exact (below_size (zl_ HB.out)) : w.heap.size ≤ gbd)); have n5_ := A_ ((by rw [hg]; exact Nat.ne_of_lt (blk_lt (g := gbc) (zb_ BKc.out)) : gbc ≠ gbd)); have n6_ := A_ ((by rw [hg]; exact Nat.ne_of_gt (blk_lt (g := gbc) (zb_ BKc.out)) : gbd ≠ gbc)); clear BKc; clear HB; have BKc := n0_; have HB := n1_; have BKd := n2_; have GWd := n3_; have GEd := n4_; have NBcd := n5_; have NBdc := n6_; clear n0_ n1_ n2_ n3_ n4_ n5_ n6_; clear hb hbox hg; have hnb9 := NBdc.out; have hnc9 := NBcd.out; have hcz10_0 : w8.cell? ⟨gbd, 0, none⟩ = some (.int .i64 0) := (blk_cell BKd.out 0).trans rfl; have hcz10_1 : w8.cell? ⟨gbd, 1, none⟩ = some (.int .i64 0) := (blk_cell BKd.out 1).trans rfl; have hfz10_0 := blk_frozen BKd.out 0; have hfz10_1 := blk_frozen BKd.out 1)); go_ret; exact ⟨by first | rfl | (simp [errW_none, errW_some] <;> rfl) | (simp [*, errW_none, errW_some] <;> rfl), by repeat (first | (with_reducible first | exact HB.out | apply lA_ | apply lN_ | apply lD_ | refine lT_ ?_ ‹_›) | exact HB.out)⟩
    ·rw [if_neg c7] at H
     have c7b0 : decide (((rd_T68 l0_1 x8_1).f0) < 0) = false := decide_eq_false c7; clear c7; by_cases c11 : ((rd_T68 l0_1 x8_1).f0) ≥ (l0_0.length : Int)
     ·rw [if_pos c11] at H
      have c11b0 : decide ((l0_0.length : Int) ≤ ((rd_T68 l0_1 x8_1).f0)) = true := decide_eq_true c11; clear c11; obtain rfl := Option.some.inj H; have p175 : 0 ≤ (x8_1 : Int) := of_decide_eq_true (by assumption); have q175 : x8_1 < (l0_1.length : Int) := of_decide_eq_true (by assumption); obtain ⟨ad175, e175, hx175_0, hx175_1⟩ := at_T68 HR0_1.out x8_1 p175 q175; cases e175; replace hx175_0 := (HB.out.cell (World.block_lt_of_cell? w _ hx175_0)).trans hx175_0; replace hx175_1 := (HB.out.cell (World.block_lt_of_cell? w _ hx175_1)).trans hx175_1; replace p175 := eq_true p175; replace q175 := eq_true q175; go_wp2_with (first | ((with_reducible refine gate_dst (N := 4) rfl ?_); (try (refine gate_guard (by rfl) ?_; dsimp only)); refine box_event ?hg (N := 4) ?hd (cs := #[.int .i64 0, .int .i64 0]) (t := 68) ?hr ?_; (case hd => rfl); (case hg => rfl); (case hr => first | (go_simp; done) | (go_simp; rfl)); intro gbd hg w12 hbox hb; have n0_ := A_ (blk_below (g := gbc) (zb_ BKc.out) hb); have n1_ := A_ (below_step (zl_ HB.out) hb); have n2_ := A_ (hbox); have n3_ := A_ ((by rw [hg]; exact (below_size (zl_ HB.out)) : w.heap.size ≤ gbd)); have n4_ := A_ ((by rw [hg]; exact (below_size (zl_ HB.out)) : w.heap.size ≤ gbd)); have n5_ := A_ ((by rw [hg]; exact Nat.ne_of_lt (blk_lt (g := gbc) (zb_ BKc.out)) : gbc ≠ gbd)); have n6_ := A_ ((by rw [hg]; exact Nat.ne_of_gt (blk_lt (g := gbc) (zb_ BKc.out)) : gbd ≠ gbc)); clear BKc; clear HB; have BKc := n0_; have HB := n1_; have BKd := n2_; have GWd := n3_; have GEd := n4_; have NBcd := n5_; have NBdc := n6_; clear n0_ n1_ n2_ n3_ n4_ n5_ n6_; clear hb hbox hg; have hnb13 := NBdc.out; have hnc13 := NBcd.out; have hcz14_0 : w12.cell? ⟨gbd, 0, none⟩ = some (.int .i64 0) := (blk_cell BKd.out 0).trans rfl; have hcz14_1 : w12.cell? ⟨gbd, 1, none⟩ = some (.int .i64 0) := (blk_cell BKd.out 1).trans rfl; have hfz14_0 := blk_frozen BKd.out 0; have hfz14_1 := blk_frozen BKd.out 1; have hcz15_0 : w12.cell? ⟨gbc, 0, none⟩ = some (.slice A0_0 l0_0.length c0_0) := (blk_cell BKc.out 0).trans rfl; have hcz15_1 : w12.cell? ⟨gbc, 1, none⟩ = some (.slice (some ad175) l0_1.length c0_1) := (blk_cell BKc.out 1).trans rfl; have hfz15_0 := blk_frozen BKc.out 0; have hfz15_1 := blk_frozen BKc.out 1)); go_ret; exact ⟨by first | rfl | (simp [errW_none, errW_some] <;> rfl) | (simp [*, errW_none, errW_some] <;> rfl), by repeat (first | (with_reducible first | exact HB.out | apply lA_ | apply lN_ | apply lD_ | refine lT_ ?_ ‹_›) | exact HB.out)⟩
     ·rw [if_neg c11] at H
      have c11b0 : decide ((l0_0.length : Int) ≤ ((rd_T68 l0_1 x8_1).f0)) = false := decide_eq_false c11; clear c11; replace H := Option.bind_eq_some_iff.mp H; obtain ⟨t177, A160, H⟩ := H; replace H : (if t177 = true then (spec_GoodSheet.l0 k1 l0_1 (l0_1.length : Int) (wrap64 (x8_1 + 1)) l0_0 l0_1) else (some false)) = some r := H; have A16 := Aside0.mk A160; clear A160; by_cases c17 : t177 = true
      ·subst c17
       have H1 : (spec_GoodSheet.l0 k1 l0_1 (l0_1.length : Int) (wrap64 (x8_1 + 1)) l0_0 l0_1) = some r := by rw [if_pos rfl] at H; exact H
       clear H; have H := H1; clear H1; have H' := Aside0.mk H; clear H; have p175 : 0 ≤ (x8_1 : Int) := of_decide_eq_true (by assumption); have q175 : x8_1 < (l0_1.length : Int) := of_decide_eq_true (by assumption); obtain ⟨ad175, e175, hx175_0, hx175_1⟩ := at_T68 HR0_1.out x8_1 p175 q175; cases e175; replace hx175_0 := (HB.out.cell (World.block_lt_of_cell? w _ hx175_0)).trans hx175_0; replace hx175_1 := (HB.out.cell (World.block_lt_of_cell? w _ hx175_1)).trans hx175_1; replace p175 := eq_true p175; replace q175 := eq_true q175; go_wp2_with (first | ((with_reducible refine gate_dst (N := 4) rfl ?_); (try (refine gate_guard (by rfl) ?_; dsimp only)); refine box_event ?hg (N := 4) ?hd (cs := #[.int .i64 0, .int .i64 0]) (t := 68) ?hr ?_; (case hd => rfl); (case hg => rfl); (case hr => first | (go_simp; done) | (go_simp; rfl)); intro gbd hg w18 hbox hb; have n0_ := A_ (blk_below (g := gbc) (zb_ BKc.out) hb); have n1_ := A_ (below_step (zl_ HB.out) hb); have n2_ := A_ (hbox); have n3_ := A_ ((by rw [hg]; exact (below_size (zl_ HB.out)) : w.heap.size ≤ gbd)); have n4_ := A_ ((by rw [hg]; exact (below_size (zl_ HB.out)) : w.heap.size ≤ gbd)); have n5_ := A_ ((by rw [hg]; exact Nat.ne_of_lt (blk_lt (g := gbc) (zb_ BKc.out)) : gbc ≠ gbd)); have n6_ := A_ ((by rw [hg]; exact Nat.ne_of_gt (blk_lt (g := gbc) (zb_ BKc.out)) : gbd ≠ gbc)); clear BKc; clear HB; have BKc := n0_; have HB := n1_; have BKd := n2_; have GWd := n3_; have GEd := n4_; have NBcd := n5_; have NBdc := n6_; clear n0_ n1_ n2_ n3_ n4_ n5_ n6_; clear hb hbox hg; have hnb19 := NBdc.out; have hnc19 := NBcd.out; have hcz20_0 : w18.cell? ⟨gbd, 0, none⟩ = some (.int .i64 0) := (blk_cell BKd.out 0).trans rfl; have hcz20_1 : w18.cell? ⟨gbd, 1, none⟩ = some (.int .i64 0) := (blk_cell BKd.out 1).trans rfl; have hfz20_0 := blk_frozen BKd.out 0; have hfz20_1 := blk_frozen BKd.out 1; have hcz21_0 : w18.cell? ⟨gbc, 0, none⟩ = some (.slice A0_0 l0_0.length c0_0) := (blk_cell BKc.out 0).trans rfl; have hcz21_1 : w18.cell? ⟨gbc, 1, none⟩ = some (.slice (some ad175) l0_1.length c0_1) := (blk_cell BKc.out 1).trans rfl; have hfz21_0 := blk_frozen BKc.out 0; have hfz21_1 := blk_frozen BKc.out 1) | (go_at_call 36; (with_reducible refine (spec_l1In.calls ((rd_T68 l0_1 x8_1).f1) 1 99 true _ A16.out).mono ?_); rintro e w' ⟨rfl, ⟨nd, rfl⟩⟩)); go_roundg k1
       case measure => have := HK1.out; omega
       case rel => exact ⟨(wrap64 (x8_1 + 1)), (by first | rfl | (simp [*]; done)), H', ⟨by have := HK1.out; omega⟩, ⟨by (with_reducible repeat (first | apply bN_ | apply bD_ | apply bA_)); refine blk_far ?_ NBcd.out _; (with_reducible repeat (first | apply bN_ | apply bD_ | apply bA_)); refine blk_far ?_ NBcd.out _; (with_reducible repeat (first | apply bN_ | apply bD_ | apply bA_)); exact BKc.out⟩, ⟨by repeat (first | (with_reducible first | exact HB.out | apply lA_ | apply lN_ | apply lD_ | refine lT_ ?_ ‹_›) | exact HB.out)⟩⟩
      ·replace c17 := Bool.eq_false_iff.mpr c17
       subst c17
       have H1 : (some false) = some r := by rw [if_neg (show ¬ (false = true) by decide)] at H; exact H
       clear H; have H := H1; clear H1; obtain rfl := Option.some.inj H; have p175 : 0 ≤ (x8_1 : Int) := of_decide_eq_true (by assumption); have q175 : x8_1 < (l0_1.length : Int) := of_decide_eq_true (by assumption); obtain ⟨ad175, e175, hx175_0, hx175_1⟩ := at_T68 HR0_1.out x8_1 p175 q175; cases e175; replace hx175_0 := (HB.out.cell (World.block_lt_of_cell? w _ hx175_0)).trans hx175_0; replace hx175_1 := (HB.out.cell (World.block_lt_of_cell? w _ hx175_1)).trans hx175_1; replace p175 := eq_true p175; replace q175 := eq_true q175; go_wp2_with (first | ((with_reducible refine gate_dst (N := 4) rfl ?_); (try (refine gate_guard (by rfl) ?_; dsimp only)); refine box_event ?hg (N := 4) ?hd (cs := #[.int .i64 0, .int .i64 0]) (t := 68) ?hr ?_; (case hd => rfl); (case hg => rfl); (case hr => first | (go_simp; done) | (go_simp; rfl)); intro gbd hg w22 hbox hb; have n0_ := A_ (blk_below (g := gbc) (zb_ BKc.out) hb); have n1_ := A_ (below_step (zl_ HB.out) hb); have n2_ := A_ (hbox); have n3_ := A_ ((by rw [hg]; exact (below_size (zl_ HB.out)) : w.heap.size ≤ gbd)); have n4_ := A_ ((by rw [hg]; exact (below_size (zl_ HB.out)) : w.heap.size ≤ gbd)); have n5_ := A_ ((by rw [hg]; exact Nat.ne_of_lt (blk_lt (g := gbc) (zb_ BKc.out)) : gbc ≠ gbd)); have n6_ := A_ ((by rw [hg]; exact Nat.ne_of_gt (blk_lt (g := gbc) (zb_ BKc.out)) : gbd ≠ gbc)); clear BKc; clear HB; have BKc := n0_; have HB := n1_; have BKd := n2_; have GWd := n3_; have GEd := n4_; have NBcd := n5_; have NBdc := n6_; clear n0_ n1_ n2_ n3_ n4_ n5_ n6_; clear hb hbox hg; have hnb23 := NBdc.out; have hnc23 := NBcd.out; have hcz24_0 : w22.cell? ⟨gbd, 0, none⟩ = some (.int .i64 0) := (blk_cell BKd.out 0).trans rfl; have hcz24_1 : w22.cell? ⟨gbd, 1, none⟩ = some (.int .i64 0) := (blk_cell BKd.out 1).trans rfl; have hfz24_0 := blk_frozen BKd.out 0; have hfz24_1 := blk_frozen BKd.out 1; have hcz25_0 : w22.cell? ⟨gbc, 0, none⟩ = some (.slice A0_0 l0_0.length c0_0) := (blk_cell BKc.out 0).trans rfl; have hcz25_1 : w22.cell? ⟨gbc, 1, none⟩ = some (.slice (some ad175) l0_1.length c0_1) := (blk_cell BKc.out 1).trans rfl; have hfz25_0 := blk_frozen BKc.out 0; have hfz25_1 := blk_frozen BKc.out 1) | (go_at_call 36; (with_reducible refine (spec_l1In.calls ((rd_T68 l0_1 x8_1).f1) 1 99 false _ A16.out).mono ?_); rintro e w' ⟨rfl, ⟨nd, rfl⟩⟩)); go_ret; exact ⟨by first | rfl | (simp [errW_none, errW_some] <;> rfl) | (simp [*, errW_none, errW_some] <;> rfl), by repeat (first | (with_reducible first | exact HB.out | apply lA_ | apply lN_ | apply lD_ | refine lT_ ?_ ‹_›) | exact HB.out)⟩
   ·rw [if_neg c4] at H
    have c4b0 : decide (x8_1 < (l0_1.length : Int)) = false := decide_eq_false c4; clear c4; replace H := Option.bind_eq_some_iff.mp H; obtain ⟨t178, A260, H⟩ := H; replace H : (if t178 = true then (some (decide ((l0_1.length : Int) ≤ 80))) else (some false)) = some r := H; have A26 := Aside0.mk A260; clear A260; by_cases c27 : t178 = true
    ·subst c27
     have H1 : (some (decide ((l0_1.length : Int) ≤ 80))) = some r := by rw [if_pos rfl] at H; exact H
     clear H; have H := H1; clear H1; obtain rfl := Option.some.inj H; have hcz28_0 : wr.cell? ⟨gbc, 0, none⟩ = some (.slice A0_0 l0_0.length c0_0) := (blk_cell BKc.out 0).trans rfl; have hcz28_1 : wr.cell? ⟨gbc, 1, none⟩ = some (.slice A0_1 l0_1.length c0_1) := (blk_cell BKc.out 1).trans rfl; have hfz28_0 := blk_frozen BKc.out 0; have hfz28_1 := blk_frozen BKc.out 1; go_wp2_with (first | ((with_reducible refine gate_callee (f := 37) rfl ?_); refine goesL_ (some 32) rfl rfl Tryd.func37 (by kernel_rfl) rfl #[.slice A0_0 l0_0.length c0_0] rfl (by (try simp only [List.map_toArray, List.map_cons, List.map_nil]); first | done | rfl | (simp only [List.length_drop, List.length_take]; rfl)) ?_; (with_reducible refine (spec_GoodGoods.calls k1 _ _ l0_0 true _ ?side1 ?side2 A26.out).mono ?_); (case side1 => repeat (first | exact (Kd.C_below HR0_0.out HB.out) | (with_reducible refine Kd.C_alloc ?_ _) | (with_reducible refine Kd.C_drewN ?_ _) | (with_reducible refine Kd.C_drew ?_))); (case side2 => exact HC0_0.out); rintro e w29 ⟨rfl, hb⟩; refine ⟨_, rfl, ?_⟩; have n0_ := A_ (blk_below (g := gbc) (zb_ BKc.out) hb); have n1_ := A_ (below_step (zl_ HB.out) hb); clear BKc; clear HB; have BKc := n0_; have HB := n1_; clear n0_ n1_; (try clear hb); (try clear hb2); (try clear hk); (try clear hi); have hcz30_0 : w29.cell? ⟨gbc, 0, none⟩ = some (.slice A0_0 l0_0.length c0_0) := (blk_cell BKc.out 0).trans rfl; have hcz30_1 : w29.cell? ⟨gbc, 1, none⟩ = some (.slice A0_1 l0_1.length c0_1) := (blk_cell BKc.out 1).trans rfl; have hfz30_0 := blk_frozen BKc.out 0; have hfz30_1 := blk_frozen BKc.out 1)); go_ret; exact ⟨by first | rfl | (simp [errW_none, errW_some] <;> rfl) | (simp [*, errW_none, errW_some] <;> rfl), by repeat (first | (with_reducible first | exact HB.out | apply lA_ | apply lN_ | apply lD_ | refine lT_ ?_ ‹_›) | exact HB.out)⟩
    ·replace c27 := Bool.eq_false_iff.mpr c27
     subst c27
     have H1 : (some false) = some r := by rw [if_neg (show ¬ (false = true) by decide)] at H; exact H
     clear H; have H := H1; clear H1; obtain rfl := Option.some.inj H; have hcz31_0 : wr.cell? ⟨gbc, 0, none⟩ = some (.slice A0_0 l0_0.length c0_0) := (blk_cell BKc.out 0).trans rfl; have hcz31_1 : wr.cell? ⟨gbc, 1, none⟩ = some (.slice A0_1 l0_1.length c0_1) := (blk_cell BKc.out 1).trans rfl; have hfz31_0 := blk_frozen BKc.out 0; have hfz31_1 := blk_frozen BKc.out 1; go_wp2_with (first | ((with_reducible refine gate_callee (f := 37) rfl ?_); refine goesL_ (some 32) rfl rfl Tryd.func37 (by kernel_rfl) rfl #[.slice A0_0 l0_0.length c0_0] rfl (by (try simp only [List.map_toArray, List.map_cons, List.map_nil]); first | done | rfl | (simp only [List.length_drop, List.length_take]; rfl)) ?_; (with_reducible refine (spec_GoodGoods.calls k1 _ _ l0_0 false _ ?side1 ?side2 A26.out).mono ?_); (case side1 => repeat (first | exact (Kd.C_below HR0_0.out HB.out) | (with_reducible refine Kd.C_alloc ?_ _) | (with_reducible refine Kd.C_drewN ?_ _) | (with_reducible refine Kd.C_drew ?_))); (case side2 => exact HC0_0.out); rintro e w32 ⟨rfl, hb⟩; refine ⟨_, rfl, ?_⟩; have n0_ := A_ (blk_below (g := gbc) (zb_ BKc.out) hb); have n1_ := A_ (below_step (zl_ HB.out) hb); clear BKc; clear HB; have BKc := n0_; have HB := n1_; clear n0_ n1_; (try clear hb); (try clear hb2); (try clear hk); (try clear hi))); go_ret; exact ⟨by first | rfl | (simp [errW_none, errW_some] <;> rfl) | (simp [*, errW_none, errW_some] <;> rfl), by repeat (first | (with_reducible first | exact HB.out | apply lA_ | apply lN_ | apply lD_ | refine lT_ ?_ ‹_›) | exact HB.out)⟩

/-! ### spec_l15Find: function 39 -/
def spec_l15Find.l0 : Nat → ByteArray → List (S61) → Int → Int → Option (Int)
 | 0, _, _, _, _ => none
 | k + 1, x1, x7, x8, x9 => if x9 < x8 then (if 0 ≤ x9 then (if x9 < (x7.length : Int) then (if ((rd_T61 x7 x9).f0).toList = x1.toList then (some x9) else (spec_l15Find.l0 k x1 x7 x8 (wrap64 (x9 + 1)))) else (none)) else (none)) else (some (-1))
def spec_l15Find.f (k : Nat) (l0 : List (S61)) (a1 : ByteArray) : Option (Int) := spec_l15Find.l0 k a1 l0 (l0.length : Int) 0
theorem spec_l15Find.mono_l : ∀ k, (∀ y0 y1 y2 y3, LeO (spec_l15Find.l0 k y0 y1 y2 y3) (spec_l15Find.l0 (k + 1) y0 y1 y2 y3))
 | 0 => fun _ _ _ _ r h => by simp [spec_l15Find.l0] at h
 | k + 1 => by
  have ih0 := spec_l15Find.mono_l k
  ·intro y0 y1 y2 y3
   unfold spec_l15Find.l0
   repeat' first
   | (with_reducible exact ih0 _ _ _ _)
   | (with_reducible exact LeO.refl _)
   | (with_reducible exact LeO.none _)
   | (with_reducible refine LeO.ite ?_ ?_)
   | (with_reducible refine LeO.bind ?_ (fun _ => ?_))
   | exact ih0 _ _ _ _
   | exact LeO.none _
   | refine LeO.ite ?_ ?_
   | refine LeO.bind ?_ (fun _ => ?_)
theorem spec_l15Find.mono : ∀ a0 a1 k, LeO (spec_l15Find.f k a0 a1) (spec_l15Find.f (k + 1) a0 a1) := by
 intro a0 a1 k; have ih0 := spec_l15Find.mono_l k; unfold spec_l15Find.f
 repeat' first
   | (with_reducible exact ih0 _ _ _ _)
   | (with_reducible exact LeO.refl _)
   | (with_reducible exact LeO.none _)
   | (with_reducible refine LeO.ite ?_ ?_)
   | (with_reducible refine LeO.bind ?_ (fun _ => ?_))
   | exact ih0 _ _ _ _
   | exact LeO.none _
   | refine LeO.ite ?_ ?_
   | refine LeO.bind ?_ (fun _ => ?_)
set_option maxHeartbeats 8000000 in
set_option maxRecDepth 100000 in
theorem spec_l15Find.calls (k : Nat) (A0 : Option Addr) (c0 : Nat) (l0 : List (S61)) (a1 : ByteArray) (r : Int) (w : World) (hr0 : Kd.C k61 w A0 l0.length l0) (hc0 : l0.length ≤ c0) (h : spec_l15Find.f k l0 a1 = some r) :
  Calls Tryd.prog 39 #[.slice A0 l0.length c0, .string a1] w fun e w' => e = .returned (.int .i64 r) ∧ Below w.heap.size w w' := by
 have hu61 := Tryd.underlying61; have HR0 := Aside0.mk hr0; have HC0 := Aside0.mk hc0; clear hr0 hc0; have HB := A_ (Below.refl w.heap.size w); have H : (spec_l15Find.l0 k a1 l0 (l0.length : Int) 0) = some r := h; clear h; have H' := Aside0.mk H; clear H; go_enter Tryd.func39, Tryd.ntmps39; go_wp2; go_loopg [9] k (fun kq v9 w' => ∃ (x9_1 : Int), v9 = .int .i64 x9_1 ∧ Aside0 (spec_l15Find.l0 kq a1 l0 (l0.length : Int) x9_1 = some r) ∧ Aside0 (kq ≤ k) ∧ Aside0 (Below w.heap.size w w'))
 case atStart => exact ⟨(0), (by first | rfl | (simp [*]; done)), H', ⟨Nat.le_refl _⟩, ⟨by repeat (first | (with_reducible first | exact HB.out | apply lA_ | apply lN_ | apply lD_) | exact HB.out)⟩⟩
 case round =>
  clear H'; obtain ⟨x9_1, rfl, HA, HK1, HB⟩ := hrel
  cases gk with
  | zero => exact absurd HA.out (by simp [spec_l15Find.l0])
  | succ k1 =>
   have H := HA.out; clear HA; simp only [spec_l15Find.l0] at H; by_cases c3 : x9_1 < (l0.length : Int)
   ·rw [if_pos c3] at H
    have c3b0 : decide (x9_1 < (l0.length : Int)) = true := decide_eq_true c3; clear c3; by_cases c4 : 0 ≤ x9_1
    case neg => rw [if_neg c4] at H; cases H
    rw [if_pos c4] at H; have c4b0 : decide (0 ≤ x9_1) = true := decide_eq_true c4; clear c4; by_cases c5 : x9_1 < (l0.length : Int)
    case neg => rw [if_neg c5] at H; cases H
    rw [if_pos c5] at H; have c5b0 : decide (x9_1 < (l0.length : Int)) = true := decide_eq_true c5; clear c5; by_cases c6 : ((rd_T61 l0 x9_1).f0).toList = a1.toList
    ·rw [if_pos c6] at H
     have c6b0 : (((rd_T61 l0 x9_1).f0).toList == a1.toList) = true := beq_iff_eq.mpr c6; have c6b1 : (((rd_T61 l0 x9_1).f0).toList != a1.toList) = false := bne_eq_false_iff_eq.mpr c6; clear c6; obtain rfl := Option.some.inj H; have p179 : 0 ≤ (x9_1 : Int) := of_decide_eq_true (by assumption); have q179 : x9_1 < (l0.length : Int) := of_decide_eq_true (by assumption); obtain ⟨ad179, e179, hx179_0, hx179_1⟩ := at_T61 HR0.out x9_1 p179 q179; cases e179; replace hx179_0 := (HB.out.cell (World.block_lt_of_cell? w _ hx179_0)).trans hx179_0; replace hx179_1 := (HB.out.cell (World.block_lt_of_cell? w _ hx179_1)).trans hx179_1; replace p179 := eq_true p179; replace q179 := eq_true q179; go_wp2_with (first | ((with_reducible refine gate_dst (N := 6) rfl ?_); refine box_event ?hg (N := 6) ?hd (cs := #[.string (⟨#[]⟩ : ByteArray), .int .i64 0]) (t := 61) ?hr ?_; (case hd => rfl); (case hg => rfl); (case hr => first | (go_simp; done) | (go_simp; rfl)); intro gbe hg w7 hbox hb; have n0_ := A_ (below_step (zl_ HB.out) hb); have n1_ := A_ (hbox); have n2_ := A_ ((by rw [hg]; exact (below_size (zl_ HB.out)) : w.heap.size ≤ gbe)); have n3_ := A_ ((by rw [hg]; exact (below_size (zl_ HB.out)) : w.heap.size ≤ gbe)); clear HB; have HB := n0_; have BKe := n1_; have GWe := n2_; have GEe := n3_; clear n0_ n1_ n2_ n3_; clear hb hbox hg; have hcz8_0 : w7.cell? ⟨gbe, 0, none⟩ = some (.string (⟨#[]⟩ : ByteArray)) := (blk_cell BKe.out 0).trans rfl; have hcz8_1 : w7.cell? ⟨gbe, 1, none⟩ = some (.int .i64 0) := (blk_cell BKe.out 1).trans rfl; have hfz8_0 := blk_frozen BKe.out 0; have hfz8_1 := blk_frozen BKe.out 1)); go_ret; exact ⟨by first | rfl | (simp [errW_none, errW_some] <;> rfl) | (simp [*, errW_none, errW_some] <;> rfl), by repeat (first | (with_reducible first | exact HB.out | apply lA_ | apply lN_ | apply lD_ | refine lT_ ?_ ‹_›) | exact HB.out)⟩
    ·rw [if_neg c6] at H
     have c6b0 : (((rd_T61 l0 x9_1).f0).toList == a1.toList) = false := beq_eq_false_iff_ne.mpr c6; have c6b1 : (((rd_T61 l0 x9_1).f0).toList != a1.toList) = true := bne_iff_ne.mpr c6; have H' := Aside0.mk H; clear H; have p179 : 0 ≤ (x9_1 : Int) := of_decide_eq_true (by assumption); have q179 : x9_1 < (l0.length : Int) := of_decide_eq_true (by assumption); obtain ⟨ad179, e179, hx179_0, hx179_1⟩ := at_T61 HR0.out x9_1 p179 q179; cases e179; replace hx179_0 := (HB.out.cell (World.block_lt_of_cell? w _ hx179_0)).trans hx179_0; replace hx179_1 := (HB.out.cell (World.block_lt_of_cell? w _ hx179_1)).trans hx179_1; replace p179 := eq_true p179; replace q179 := eq_true q179; go_wp2_with (first | ((with_reducible refine gate_dst (N := 6) rfl ?_); refine box_event ?hg (N := 6) ?hd (cs := #[.string (⟨#[]⟩ : ByteArray), .int .i64 0]) (t := 61) ?hr ?_; (case hd => rfl); (case hg => rfl); (case hr => first | (go_simp; done) | (go_simp; rfl)); intro gbe hg w9 hbox hb; have n0_ := A_ (below_step (zl_ HB.out) hb); have n1_ := A_ (hbox); have n2_ := A_ ((by rw [hg]; exact (below_size (zl_ HB.out)) : w.heap.size ≤ gbe)); have n3_ := A_ ((by rw [hg]; exact (below_size (zl_ HB.out)) : w.heap.size ≤ gbe)); clear HB; have HB := n0_; have BKe := n1_; have GWe := n2_; have GEe := n3_; clear n0_ n1_ n2_ n3_; clear hb hbox hg; have hcz10_0 : w9.cell? ⟨gbe, 0, none⟩ = some (.string (⟨#[]⟩ : ByteArray)) := (blk_cell BKe.out 0).trans rfl; have hcz10_1 : w9.cell? ⟨gbe, 1, none⟩ = some (.int .i64 0) := (blk_cell BKe.out 1).trans rfl; have hfz10_0 := blk_frozen BKe.out 0; have hfz10_1 := blk_frozen BKe.out 1)); go_roundg k1
     case measure => have := HK1.out; omega
     case rel => exact ⟨(wrap64 (x9_1 + 1)), (by first | rfl | (simp [*]; done)), H', ⟨by have := HK1.out; omega⟩, ⟨by repeat (first | (with_reducible first | exact HB.out | apply lA_ | apply lN_ | apply lD_ | refine lT_ ?_ ‹_›) | exact HB.out)⟩⟩
   ·rw [if_neg c3] at H
    have c3b0 : decide (x9_1 < (l0.length : Int)) = false := decide_eq_false c3; clear c3; obtain rfl := Option.some.inj H; go_wp2; go_ret; exact ⟨by first | rfl | (simp [errW_none, errW_some] <;> rfl) | (simp [*, errW_none, errW_some] <;> rfl), by repeat (first | (with_reducible first | exact HB.out | apply lA_ | apply lN_ | apply lD_) | exact HB.out)⟩

end Go.Proofs.YtabpgjejedjliaaDoor.GLJoinSheets
