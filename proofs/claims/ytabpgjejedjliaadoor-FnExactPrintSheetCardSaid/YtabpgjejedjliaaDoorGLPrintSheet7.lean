-- Written by a program of this session (gprint.py), over the kit's print: not trusted: Lean checks it.
import Derived.Test.YtabpgjejedjliaaDoorGLPrintSheet0
import Derived.Test.YtabpgjejedjliaaDoorOwnP
import Derived.Test.YtabpgjejedjliaaDoorGLPrintSheet6
namespace Go.Proofs.YtabpgjejedjliaaDoor.GLPrintSheet
open Go.RowKit Go.Proofs.YtabpgjejedjliaaDoorW.PrintWords Go.Proofs.YtabpgjejedjliaaDoorW.PrintLast Go.Proofs.YtabpgjejedjliaaDoorW.PrintMore Go.Proofs.YtabpgjejedjliaaDoorW.PrintOwn
attribute [local go_sem] max2_int min2_int max_two min_two max_three min_three max_four min_four   -- for this text's walks alone
set_option linter.unusedVariables false
set_option linter.unusedSimpArgs false

/-! ### impl_GoodSheet: function 14 -/
def impl_GoodSheet.f (k : Nat) (l0_0 : List (S61)) (l0_1 : List (S68)) : Option (Bool) := (impl_ProfileOf.f k l0_0 l0_1).bind fun bt192 => (some bt192.2.2)
theorem impl_GoodSheet.mono : ∀ a0 a1 k, LeO (impl_GoodSheet.f k a0 a1) (impl_GoodSheet.f (k + 1) a0 a1) := by
  intro a0 a1 k
  unfold impl_GoodSheet.f
  repeat' first
      | (with_reducible exact impl_ProfileOf.mono _ _ _)
      | (with_reducible exact LeO.refl _)
      | (with_reducible exact LeO.none _)
      | (with_reducible refine LeO.ite ?_ ?_)
      | (with_reducible refine LeO.bind ?_ (fun _ => ?_))
      | exact impl_ProfileOf.mono _ _ _
      | exact LeO.none _
      | refine LeO.ite ?_ ?_
      | refine LeO.bind ?_ (fun _ => ?_)
set_option maxHeartbeats 8000000 in
set_option maxRecDepth 100000 in
theorem impl_GoodSheet.calls (k : Nat) (A0_0 : Option Addr) (c0_0 : Nat) (l0_0 : List (S61)) (A0_1 : Option Addr) (c0_1 : Nat) (l0_1 : List (S68)) (r : Bool) (w : World) (hr0_0 : Kd.C k61 w A0_0 l0_0.length l0_0) (hc0_0 : l0_0.length ≤ c0_0) (hr0_1 : Kd.C k68 w A0_1 l0_1.length l0_1) (hc0_1 : l0_1.length ≤ c0_1) (h : impl_GoodSheet.f k l0_0 l0_1 = some r) :
    Calls Tryd.prog 14 #[.agg #[.slice A0_0 l0_0.length c0_0, .slice A0_1 l0_1.length c0_1]] w fun e w' => e = .returned (.bool r) ∧ Below w.heap.size w w' := by
  have hu32 := Tryd.underlying32
  have hu42 := Tryd.underlying42
  have HR0_0 := Aside0.mk hr0_0
  have HC0_0 := Aside0.mk hc0_0
  clear hr0_0 hc0_0
  have HR0_1 := Aside0.mk hr0_1
  have HC0_1 := Aside0.mk hc0_1
  clear hr0_1 hc0_1
  have HB := Aside0.mk (Below.refl w.heap.size w)
  have H : ((impl_ProfileOf.f k l0_0 l0_1).bind fun bt192 => (some bt192.2.2)) = some r := h
  clear h
  replace H := Option.bind_eq_some_iff.mp H
  obtain ⟨⟨t192, t195, t198⟩, A20, H⟩ := H
  replace H : (some t198) = some r := H
  have A2 := Aside0.mk A20
  clear A20
  obtain rfl := Option.some.inj H
  go_enter Tryd.func14, Tryd.ntmps14
  go_wp2_with (first | ((with_reducible refine gate_dst (N := 1) rfl ?_); refine box_event ?hg (N := 1) ?hd (cs := #[.slice A0_0 l0_0.length c0_0, .slice A0_1 l0_1.length c0_1]) (t := 32) ?hr ?_; (case hd => rfl); (case hg => rfl); (case hr => first | (go_simp; done) | (go_simp; rfl)); intro gb191 hg w3 hbox hb; have n0_ := Aside0.mk (below_step (by repeat (first | (with_reducible first | exact HB.out | apply below_alloc | apply pw_below_drewN | apply below_drew1) | exact HB.out)) hb); have n1_ := Aside0.mk (hbox); have n2_ := Aside0.mk ((by rw [hg]; exact (below_size (by repeat (first | (with_reducible first | exact HB.out | apply below_alloc | apply pw_below_drewN | apply below_drew1) | exact HB.out))) : w.heap.size ≤ gb191)); have n3_ := Aside0.mk ((by rw [hg]; exact (below_size (by repeat (first | (with_reducible first | exact HB.out | apply below_alloc | apply pw_below_drewN | apply below_drew1) | exact HB.out))) : w.heap.size ≤ gb191)); clear HB; have HB := n0_; have BK191 := n1_; have GW191 := n2_; have GE191 := n3_; clear n0_ n1_ n2_ n3_; clear hb hbox hg; have hcz4_0 : w3.cell? ⟨gb191, 0, none⟩ = some (.slice A0_0 l0_0.length c0_0) := (blk_cell BK191.out 0).trans rfl; have hcz4_1 : w3.cell? ⟨gb191, 1, none⟩ = some (.slice A0_1 l0_1.length c0_1) := (blk_cell BK191.out 1).trans rfl; have hfz4_0 := blk_frozen BK191.out 0; have hfz4_1 := blk_frozen BK191.out 1) | ((with_reducible refine gate_callee (f := 38) rfl ?_); refine goesL_ (some 10) rfl rfl Tryd.func38 (by kernel_rfl) rfl #[.slice A0_0 l0_0.length c0_0, .slice A0_1 l0_1.length c0_1] rfl (by (try simp only [List.map_toArray, List.map_cons, List.map_nil]); first | done | rfl | (simp only [List.length_drop, List.length_take]; rfl)) ?_; (with_reducible refine (impl_ProfileOf.calls k _ _ l0_0 _ _ l0_1 t192 t195 t198 _ ?side1 ?side2 ?side3 ?side4 A2.out).mono ?_); (case side1 => repeat (first | exact (Kd.C_below HR0_0.out HB.out) | (with_reducible refine Kd.C_alloc ?_ _) | (with_reducible refine Kd.C_drewN ?_ _) | (with_reducible refine Kd.C_drew ?_))); (case side2 => exact HC0_0.out); (case side3 => repeat (first | exact (Kd.C_below HR0_1.out HB.out) | (with_reducible refine Kd.C_alloc ?_ _) | (with_reducible refine Kd.C_drewN ?_ _) | (with_reducible refine Kd.C_drew ?_))); (case side4 => exact HC0_1.out); rintro e w5 ⟨v193, v196, rfl, ho0, ho1, hb⟩; refine ⟨_, rfl, ?_⟩; have n0_ := Aside0.mk (Kd.R_lower ho0 (below_size (by repeat (first | (with_reducible first | exact HB.out | apply below_alloc | apply pw_below_drewN | apply below_drew1 | refine below_set ?_ GE191.out) | exact HB.out)))); have n1_ := Aside0.mk (Kd.R_lower ho1 (below_size (by repeat (first | (with_reducible first | exact HB.out | apply below_alloc | apply pw_below_drewN | apply below_drew1 | refine below_set ?_ GE191.out) | exact HB.out)))); have n2_ := Aside0.mk (blk_below (g := gb191) (o := .cells #[.slice A0_0 l0_0.length c0_0, .slice A0_1 l0_1.length c0_1] 32 (0, 0)) (by (with_reducible repeat (first | refine blk_drewN ?_ _ | refine blk_drew ?_ | refine blk_alloc ?_ _)); exact BK191.out) hb); have n3_ := Aside0.mk (below_step (by repeat (first | (with_reducible first | exact HB.out | apply below_alloc | apply pw_below_drewN | apply below_drew1 | refine below_set ?_ GE191.out) | exact HB.out)) hb); clear BK191; clear HB; have HO194 := n0_; have HO197 := n1_; have BK191 := n2_; have HB := n3_; clear n0_ n1_ n2_ n3_; (try clear hb); (try clear hb2); (try clear hk); (try clear hi); (try clear ho0); (try clear ho1)) | ((with_reducible refine gate_dst (N := 3) rfl ?_); refine box_event ?hg (N := 3) ?hd (cs := #[.slice none 0 0, .slice none 0 0]) (t := 42) ?hr ?_; (case hd => rfl); (case hg => rfl); (case hr => first | (go_simp; done) | (go_simp; rfl)); intro gb199 hg w6 hbox hb; have n0_ := Aside0.mk (Kd.R_below (by (with_reducible repeat (first | apply Kd.R_alloc | apply Kd.R_drewN | apply Kd.R_drew)); exact HO194.out) hb); have n1_ := Aside0.mk (Kd.R_below (by (with_reducible repeat (first | apply Kd.R_alloc | apply Kd.R_drewN | apply Kd.R_drew)); exact HO197.out) hb); have n2_ := Aside0.mk (blk_below (g := gb191) (o := .cells #[.slice A0_0 l0_0.length c0_0, .slice A0_1 l0_1.length c0_1] 32 (0, 0)) (by (with_reducible repeat (first | refine blk_drewN ?_ _ | refine blk_drew ?_ | refine blk_alloc ?_ _)); exact BK191.out) hb); have n3_ := Aside0.mk (below_step (by repeat (first | (with_reducible first | exact HB.out | apply below_alloc | apply pw_below_drewN | apply below_drew1 | refine below_set ?_ GE191.out) | exact HB.out)) hb); have n4_ := Aside0.mk (hbox); have n5_ := Aside0.mk ((by rw [hg]; exact (below_size (by repeat (first | (with_reducible first | exact HB.out | apply below_alloc | apply pw_below_drewN | apply below_drew1 | refine below_set ?_ GE191.out) | exact HB.out))) : w.heap.size ≤ gb199)); have n6_ := Aside0.mk ((by rw [hg]; exact (below_size (by repeat (first | (with_reducible first | exact HB.out | apply below_alloc | apply pw_below_drewN | apply below_drew1 | refine below_set ?_ GE191.out) | exact HB.out))) : w.heap.size ≤ gb199)); have n7_ := Aside0.mk ((by rw [hg]; exact Nat.ne_of_lt (blk_lt (g := gb191) (o := .cells #[.slice A0_0 l0_0.length c0_0, .slice A0_1 l0_1.length c0_1] 32 (0, 0)) (by (with_reducible repeat (first | refine blk_drewN ?_ _ | refine blk_drew ?_ | refine blk_alloc ?_ _)); exact BK191.out)) : gb191 ≠ gb199)); have n8_ := Aside0.mk ((by rw [hg]; exact Nat.ne_of_gt (blk_lt (g := gb191) (o := .cells #[.slice A0_0 l0_0.length c0_0, .slice A0_1 l0_1.length c0_1] 32 (0, 0)) (by (with_reducible repeat (first | refine blk_drewN ?_ _ | refine blk_drew ?_ | refine blk_alloc ?_ _)); exact BK191.out)) : gb199 ≠ gb191)); clear HO194; clear HO197; clear BK191; clear HB; have HO194 := n0_; have HO197 := n1_; have BK191 := n2_; have HB := n3_; have BK199 := n4_; have GW199 := n5_; have GE199 := n6_; have NB191_199 := n7_; have NB199_191 := n8_; clear n0_ n1_ n2_ n3_ n4_ n5_ n6_ n7_ n8_; clear hb hbox hg; obtain ⟨Ao7, co7, eo7⟩ := Kd.R_slice HO194.out; subst eo7; have hnb8 := NB199_191.out; have hnc8 := NB191_199.out; have hcz9_0 : w6.cell? ⟨gb199, 0, none⟩ = some (.slice none 0 0) := (blk_cell BK199.out 0).trans rfl; have hcz9_1 : w6.cell? ⟨gb199, 1, none⟩ = some (.slice none 0 0) := (blk_cell BK199.out 1).trans rfl; have hfz9_0 := blk_frozen BK199.out 0; have hfz9_1 := blk_frozen BK199.out 1; obtain ⟨Ao10, co10, eo10⟩ := Kd.R_slice HO197.out; subst eo10))
  go_ret
  exact ⟨by first | rfl | (simp [errW_none, errW_some] <;> rfl) | (simp [*, errW_none, errW_some] <;> rfl), by repeat (first | (with_reducible first | exact HB.out | apply below_alloc | apply pw_below_drewN | apply below_drew1 | refine below_set ?_ GE191.out | refine below_set ?_ GE199.out) | exact HB.out)⟩

/-! ### impl_PrintSheet: function 11 -/
def impl_PrintSheet.lay166_ren : Go.Shelf.Ren := ⟨fun | 166 => 31 | 240 => 55 | 276 => 65 | n => n, fun | 70 => 56 | 9 => 9 | 3 => 3 | 75 => 63 | 0 => 0 | 72 => 59 | 37 => 57 | 4 => 4 | 164 => 95 | 80 => 69 | 5 => 5 | n => n, fun | n => n⟩
theorem impl_PrintSheet.lay166 : Go.Proofs.Lays.n166 Tryd.prog impl_PrintSheet.lay166_ren := {
  mixed := by kernel_rfl
  f166 := Tryd.func31.trans (congrArg some (by kernel_rfl))
  f240 := Tryd.func55.trans (congrArg some (by kernel_rfl))
  f276 := Tryd.func65.trans (congrArg some (by kernel_rfl))
  t0 := Tryd.underlying0
  a0 := Tryd.isAgg0
  z0 := Tryd.sizeOf0
  v0 := Tryd.zeroValue0
  t3 := Tryd.underlying3
  a3 := Tryd.isAgg3
  z3 := Tryd.sizeOf3
  v3 := Tryd.zeroValue3
  t4 := Tryd.underlying4
  a4 := Tryd.isAgg4
  z4 := Tryd.sizeOf4
  v4 := Tryd.zeroValue4
  t9 := Tryd.underlying9
  a9 := Tryd.isAgg9
  z9 := Tryd.sizeOf9
  v9 := Tryd.zeroValue9
  t20 := Tryd.underlying20
  a20 := Tryd.isAgg20
  z20 := Tryd.sizeOf20
  v20 := Tryd.zeroValue20
  t37 := Tryd.underlying57
  a37 := Tryd.isAgg57
  z37 := Tryd.sizeOf57
  v37 := Tryd.zeroValue57
  t70 := Tryd.underlying56
  a70 := Tryd.isAgg56
  z70 := Tryd.sizeOf56
  v70 := Tryd.zeroValue56
  t72 := Tryd.underlying59
  a72 := Tryd.isAgg59
  z72 := Tryd.sizeOf59
  v72 := Tryd.zeroValue59
  t75 := Tryd.underlying63
  a75 := Tryd.isAgg63
  z75 := Tryd.sizeOf63
  v75 := Tryd.zeroValue63
  t164 := Tryd.underlying95
  a164 := Tryd.isAgg95
  z164 := Tryd.sizeOf95
  v164 := Tryd.zeroValue95 }

def impl_PrintSheet.lay169_ren : Go.Shelf.Ren := ⟨fun | 169 => 33 | n => n, fun | 70 => 56 | 9 => 9 | 0 => 0 | 72 => 59 | 37 => 57 | 127 => 88 | 3 => 3 | 5 => 5 | n => n, fun | n => n⟩
theorem impl_PrintSheet.lay169 : Go.Proofs.Lays.n169 Tryd.prog impl_PrintSheet.lay169_ren := {
  mixed := by kernel_rfl
  f169 := Tryd.func33.trans (congrArg some (by kernel_rfl))
  t0 := Tryd.underlying0
  a0 := Tryd.isAgg0
  z0 := Tryd.sizeOf0
  v0 := Tryd.zeroValue0
  t3 := Tryd.underlying3
  a3 := Tryd.isAgg3
  z3 := Tryd.sizeOf3
  v3 := Tryd.zeroValue3
  t9 := Tryd.underlying9
  a9 := Tryd.isAgg9
  z9 := Tryd.sizeOf9
  v9 := Tryd.zeroValue9
  t37 := Tryd.underlying57
  a37 := Tryd.isAgg57
  z37 := Tryd.sizeOf57
  v37 := Tryd.zeroValue57
  t70 := Tryd.underlying56
  a70 := Tryd.isAgg56
  z70 := Tryd.sizeOf56
  v70 := Tryd.zeroValue56
  t72 := Tryd.underlying59
  a72 := Tryd.isAgg59
  z72 := Tryd.sizeOf59
  v72 := Tryd.zeroValue59
  t127 := Tryd.underlying88
  a127 := Tryd.isAgg88
  z127 := Tryd.sizeOf88
  v127 := Tryd.zeroValue88 }

def impl_PrintSheet.lay171_ren : Go.Shelf.Ren := ⟨fun | 171 => 32 | 243 => 56 | 246 => 66 | 283 => 70 | 284 => 71 | 285 => 72 | 286 => 73 | 129 => 76 | 317 => 75 | 318 => 77 | 319 => 78 | 320 => 79 | 337 => 87 | 338 => 88 | n => n, fun | 3 => 3 | 9 => 9 | 2 => 2 | 4 => 4 | 171 => 99 | 0 => 0 | 53 => 100 | 37 => 57 | 5 => 5 | 173 => 103 | 212 => 108 | 51 => 109 | 20 => 20 | 213 => 110 | 46 => 112 | 232 => 126 | 233 => 127 | n => n, fun | 17 => 0 | 18 => 1 | 19 => 2 | n => n⟩
theorem impl_PrintSheet.lay171 : Go.Proofs.LaysM.n171 Tryd.prog impl_PrintSheet.lay171_ren := {
  mixed := by kernel_rfl
  f129 := Tryd.func76.trans (congrArg some (by kernel_rfl))
  f171 := Tryd.func32.trans (congrArg some (by kernel_rfl))
  f243 := Tryd.func56.trans (congrArg some (by kernel_rfl))
  f246 := Tryd.func66.trans (congrArg some (by kernel_rfl))
  f283 := Tryd.func70.trans (congrArg some (by kernel_rfl))
  f284 := Tryd.func71.trans (congrArg some (by kernel_rfl))
  f285 := Tryd.func72.trans (congrArg some (by kernel_rfl))
  f286 := Tryd.func73.trans (congrArg some (by kernel_rfl))
  f317 := Tryd.func75.trans (congrArg some (by kernel_rfl))
  f318 := Tryd.func77.trans (congrArg some (by kernel_rfl))
  f319 := Tryd.func78.trans (congrArg some (by kernel_rfl))
  f320 := Tryd.func79.trans (congrArg some (by kernel_rfl))
  f337 := Tryd.func87.trans (congrArg some (by kernel_rfl))
  f338 := Tryd.func88.trans (congrArg some (by kernel_rfl))
  t0 := Tryd.underlying0
  a0 := Tryd.isAgg0
  z0 := Tryd.sizeOf0
  v0 := Tryd.zeroValue0
  t2 := Tryd.underlying2
  a2 := Tryd.isAgg2
  z2 := Tryd.sizeOf2
  v2 := Tryd.zeroValue2
  t3 := Tryd.underlying3
  a3 := Tryd.isAgg3
  z3 := Tryd.sizeOf3
  v3 := Tryd.zeroValue3
  t4 := Tryd.underlying4
  a4 := Tryd.isAgg4
  z4 := Tryd.sizeOf4
  v4 := Tryd.zeroValue4
  t5 := Tryd.underlying5
  a5 := Tryd.isAgg5
  z5 := Tryd.sizeOf5
  v5 := Tryd.zeroValue5
  t9 := Tryd.underlying9
  a9 := Tryd.isAgg9
  z9 := Tryd.sizeOf9
  v9 := Tryd.zeroValue9
  t20 := Tryd.underlying20
  a20 := Tryd.isAgg20
  z20 := Tryd.sizeOf20
  v20 := Tryd.zeroValue20
  t37 := Tryd.underlying57
  a37 := Tryd.isAgg57
  z37 := Tryd.sizeOf57
  v37 := Tryd.zeroValue57
  t46 := Tryd.underlying112
  a46 := Tryd.isAgg112
  z46 := Tryd.sizeOf112
  v46 := Tryd.zeroValue112
  t51 := Tryd.underlying109
  a51 := Tryd.isAgg109
  z51 := Tryd.sizeOf109
  v51 := Tryd.zeroValue109
  t53 := Tryd.underlying100
  a53 := Tryd.isAgg100
  z53 := Tryd.sizeOf100
  v53 := Tryd.zeroValue100
  t171 := Tryd.underlying99
  a171 := Tryd.isAgg99
  z171 := Tryd.sizeOf99
  v171 := Tryd.zeroValue99
  t173 := Tryd.underlying103
  a173 := Tryd.isAgg103
  z173 := Tryd.sizeOf103
  v173 := Tryd.zeroValue103
  t212 := Tryd.underlying108
  a212 := Tryd.isAgg108
  z212 := Tryd.sizeOf108
  v212 := Tryd.zeroValue108
  t213 := Tryd.underlying110
  a213 := Tryd.isAgg110
  z213 := Tryd.sizeOf110
  t232 := Tryd.underlying126
  a232 := Tryd.isAgg126
  z232 := Tryd.sizeOf126
  v232 := Tryd.zeroValue126
  t233 := Tryd.underlying127
  a233 := Tryd.isAgg127
  z233 := Tryd.sizeOf127
  v233 := Tryd.zeroValue127
  g17 := by kernel_rfl
  g18 := by kernel_rfl
  g19 := by kernel_rfl
  i0 := by kernel_rfl
  i2 := by kernel_rfl
  i3 := by kernel_rfl
  i4 := by kernel_rfl
  i5 := by kernel_rfl
  i9 := by kernel_rfl
  i20 := by kernel_rfl
  i37 := by kernel_rfl
  i46 := by kernel_rfl
  i51 := by kernel_rfl
  i53 := by kernel_rfl
  i171 := by kernel_rfl
  i173 := by kernel_rfl
  i212 := by kernel_rfl
  i232 := by kernel_rfl
  i233 := by kernel_rfl
  m17 := by kernel_rfl
  m18 := by kernel_rfl
  m19 := by kernel_rfl }

theorem impl_PrintSheet.ext166 : Builder.Extra Tryd.prog impl_PrintSheet.lay166_ren := { sizeBuilder := by kernel_rfl, liesBuilder := by kernel_rfl, t5 := Tryd.underlying5, a5 := Tryd.isAgg5, z5 := Tryd.sizeOf5, v5 := Tryd.zeroValue5, infoByte := by kernel_rfl, cellsByte := by kernel_rfl, sizeByte := by kernel_rfl, neB5 := by decide }
theorem impl_PrintSheet.ext169 : Builder.Extra Tryd.prog impl_PrintSheet.lay169_ren := { sizeBuilder := by kernel_rfl, liesBuilder := by kernel_rfl, t5 := Tryd.underlying5, a5 := Tryd.isAgg5, z5 := Tryd.sizeOf5, v5 := Tryd.zeroValue5, infoByte := by kernel_rfl, cellsByte := by kernel_rfl, sizeByte := by kernel_rfl, neB5 := by decide }
theorem impl_PrintSheet.tabNo : Tryd.prog.globalNamed "internal/strconv.uint64pow10" = some 0 := by kernel_rfl
theorem impl_PrintSheet.itoa (n : Int) (h0 : -9223372036854775808 ≤ n) (h1 : n ≤ 9223372036854775807) (w : World) (htab : Lib.TabIs Tryd.prog w "internal/strconv.uint64pow10" .u64 Lib.pow10Tab) : Calls Tryd.prog 32 #[.int .i64 n] w fun e w' => e = .returned (.string ⟨(Lib.itoa n).toArray⟩) ∧ Below w.heap.size w w' :=
  (Any.strconv_Itoa impl_PrintSheet.lay171 n h0 h1 w htab).mono fun e w' ⟨h2, k, os, h3⟩ => ⟨h2, by rw [h3]; exact Lib.below_grow w.heap.size w (Nat.le_refl _) k os⟩
theorem impl_PrintSheet.ws (b : Nat) (l : List UInt8) (s : ByteArray) (w : World) (h : Lib.IsBuilder 59 5 b b (Lib.byteCells l) w) (hlen : l.length + s.size ≤ 140737488355328) (hb : b ≤ w.heap.size) : Calls Tryd.prog 31 #[.pointer (some ⟨b, 0, none⟩), .string s] w fun e w' => e = .returned (.tuple #[.int .i64 s.size, .nilIface]) ∧ Lib.IsBuilder 59 5 b b (Lib.byteCells (l ++ s.data.toList)) w' ∧ Below b w w' :=
  (Any.Builder_WriteString impl_PrintSheet.lay166 impl_PrintSheet.ext166 b b (Lib.byteCells l) s w h (by rw [Lib.byteCells_length]; exact hlen) hb).mono fun e w' ⟨h1, h2, h3⟩ => ⟨h1, by rw [← cells_app, ← cells_str]; exact Or.inr h2, h3⟩
theorem impl_PrintSheet.str (b : Nat) (l : List UInt8) (w : World) (h : Lib.IsBuilder 59 5 b b (Lib.byteCells l) w) (hb : b ≤ w.heap.size) : Calls Tryd.prog 33 #[.pointer (some ⟨b, 0, none⟩)] w fun e w' => e = .returned (.string ⟨l.toArray⟩) ∧ Below b w w' :=
  Any.Builder_String_any impl_PrintSheet.lay169 impl_PrintSheet.ext169 b b l w h hb
def impl_PrintSheet.gT (g : S61) : List UInt8 := [103, 111, 111, 100, 32] ++ g.f0.data.toList ++ [32] ++ Lib.itoa g.f1 ++ [10]
def impl_PrintSheet.lT (G : List S61) (x : S68) : List UInt8 := [112, 105, 99, 107, 32] ++ (rd_T61 G x.f0).f0.data.toList ++ [32] ++ Lib.itoa x.f1 ++ [10]
def impl_PrintSheet.text (G : List S61) (L : List S68) : List UInt8 := G.flatMap impl_PrintSheet.gT ++ L.flatMap (impl_PrintSheet.lT G)
def impl_PrintSheet.f (k : Nat) (l0 : List S61) (l1 : List S68) : Option (ByteArray × Bool) := (impl_GoodSheet.f k l0 l1).bind fun t => if t = true then (if (∀ g ∈ l0, 0 ≤ g.f1 ∧ g.f1 ≤ 1000) ∧ (∀ x ∈ l1, (0 ≤ x.f0 ∧ x.f0 < (l0.length : Int)) ∧ 0 ≤ x.f1 ∧ x.f1 ≤ 1000) ∧ (impl_PrintSheet.text l0 l1).length ≤ 1073741824 then some (⟨(impl_PrintSheet.text l0 l1).toArray⟩, true) else none) else some (⟨#[]⟩, false)
theorem impl_PrintSheet.mono : ∀ a0 a1 k, LeO (impl_PrintSheet.f k a0 a1) (impl_PrintSheet.f (k + 1) a0 a1) := by
  intro a0 a1 k
  unfold impl_PrintSheet.f
  exact LeO.bind (impl_GoodSheet.mono _ _ _) (fun _ => LeO.refl _)
theorem impl_PrintSheet.g_str (NM : ByteArray) (NU : Int) : ((((⟨#[103, 111, 111, 100, 32]⟩ ++ NM) ++ ⟨#[32]⟩) ++ ⟨(Lib.itoa NU).toArray⟩) ++ ⟨#[10]⟩ : ByteArray).data.toList = [103, 111, 111, 100, 32] ++ NM.data.toList ++ [32] ++ Lib.itoa NU ++ [10] := by simp [ByteArray.data_append]
theorem impl_PrintSheet.l_str (NM : ByteArray) (NU : Int) : ((((⟨#[112, 105, 99, 107, 32]⟩ ++ NM) ++ ⟨#[32]⟩) ++ ⟨(Lib.itoa NU).toArray⟩) ++ ⟨#[10]⟩ : ByteArray).data.toList = [112, 105, 99, 107, 32] ++ NM.data.toList ++ [32] ++ Lib.itoa NU ++ [10] := by simp [ByteArray.data_append]
theorem impl_PrintSheet.szs (c NM : ByteArray) (hc : c.size = 5) (NU : Int) : ((((c ++ NM) ++ ⟨#[32]⟩) ++ ⟨(Lib.itoa NU).toArray⟩) ++ ⟨#[10]⟩ : ByteArray).size = 5 + NM.size + 1 + (Lib.itoa NU).length + 1 := by
  rw [ByteArray.size_append, ByteArray.size_append, ByteArray.size_append, ByteArray.size_append, hc]
  rfl
theorem impl_PrintSheet.flat_at {α : Type} (f : α → List UInt8) (pre suf : List α) (g : α) : (pre.flatMap f).length + (f g).length ≤ ((pre ++ g :: suf).flatMap f).length := by
  rw [List.flatMap_append, List.flatMap_cons, List.length_append, List.length_append]
  omega
set_option maxHeartbeats 8000000 in
set_option maxRecDepth 100000 in
theorem impl_PrintSheet.calls (k : Nat) (A0 : Option Addr) (c0 : Nat) (l0 : List S61) (A1 : Option Addr) (c1 : Nat) (l1 : List S68) (r1 : ByteArray) (r2 : Bool) (w : World) (hr0 : Kd.C k61 w A0 l0.length l0) (hc0 : l0.length ≤ c0) (hr1 : Kd.C k68 w A1 l1.length l1) (hc1 : l1.length ≤ c1) (h : impl_PrintSheet.f k l0 l1 = some (r1, r2)) (hT : Lib.TabIs Tryd.prog w "internal/strconv.uint64pow10" .u64 Lib.pow10Tab) :
    Calls Tryd.prog 11 #[.agg #[.slice A0 l0.length c0, .slice A1 l1.length c1]] w fun e w' => e = .returned (.tuple #[.string r1, .bool r2]) ∧ Below w.heap.size w w' := by
  unfold impl_PrintSheet.f at h
  obtain ⟨t, ht, h⟩ := Option.bind_eq_some_iff.mp h
  have HR0 := Aside0.mk hr0
  have HC0 := Aside0.mk hc0
  have HR1 := Aside0.mk hr1
  have HC1 := Aside0.mk hc1
  have HT := Aside0.mk ht
  have HH := Aside0.mk h
  have HTAB := Aside0.mk hT
  clear hr0 hc0 hr1 hc1 ht h hT
  go_enter Tryd.func11, Tryd.ntmps11
  go_wp2_with ((with_reducible refine gate_dst (N := 1) rfl ?_); refine box_event ?hg (N := 1) ?hd (cs := #[.slice A0 l0.length c0, .slice A1 l1.length c1]) (t := 32) ?hr ?_; (case hd => rfl); (case hg => rfl); (case hr => first | (go_simp; done) | (go_simp; rfl)); intro g1 hg w1 hbox hb; have B1 := Aside0.mk hbox; have HB := Aside0.mk hb; have E1 := Aside0.mk hg; have k0 : w1.cell? ⟨g1, 0, none⟩ = some (.slice A0 l0.length c0) := (blk_cell hbox 0).trans rfl; have k1 : w1.cell? ⟨g1, 1, none⟩ = some (.slice A1 l1.length c1) := (blk_cell hbox 1).trans rfl; clear hg hbox hb)
  go_at_call 14
  refine (impl_GoodSheet.calls k A0 c0 l0 A1 c1 l1 t w1 (Kd.C_below HR0.out HB.out) HC0.out (Kd.C_below HR1.out HB.out) HC1.out HT.out).mono ?_
  rintro e w2 ⟨rfl, hb2⟩
  have HB2 := Aside0.mk (HB.out.trans (hb2.mono HB.out.size))
  have B1b := Aside0.mk (blk_below B1.out hb2)
  clear hb2 k0 k1 HB B1
  have h := HH.out
  cases t with
  | false =>
    simp only [Bool.false_eq_true, if_false, Option.some.injEq, Prod.mk.injEq] at h
    obtain ⟨rfl, rfl⟩ := h
    go_wp2_with fail
    go_ret2
    exact ⟨rfl, HB2.out⟩
  | true =>
    rw [if_pos rfl] at h
    by_cases hl : (∀ g ∈ l0, 0 ≤ g.f1 ∧ g.f1 ≤ 1000) ∧ (∀ x ∈ l1, (0 ≤ x.f0 ∧ x.f0 < (l0.length : Int)) ∧ 0 ≤ x.f1 ∧ x.f1 ≤ 1000) ∧ (impl_PrintSheet.text l0 l1).length ≤ 1073741824
    case neg => rw [if_neg hl] at h; cases h
    rw [if_pos hl] at h
    simp only [Option.some.injEq, Prod.mk.injEq] at h
    obtain ⟨rfl, rfl⟩ := h
    have HL := Aside0.mk hl
    clear hl HH
    go_wp2_with ((with_reducible refine gate_dst (N := 4) rfl ?_); refine box_event ?hg (N := 4) ?hd (cs := #[.pointer none, .slice none 0 0]) (t := 59) ?hr ?_; (case hd => rfl); (case hg => rfl); (case hr => first | (go_simp; done) | (go_simp; rfl)); intro g4 hg w3 hbox hb; have B4 := Aside0.mk hbox; have HB3 := Aside0.mk hb; have E4 := Aside0.mk hg; have n14 : g1 ≠ g4 := (by rw [hg]; exact Nat.ne_of_lt (blk_lt B1b.out)); have n41 := Ne.symm n14; have N14 := Aside0.mk n14; have z40 : w3.cell? ⟨g4, 0, none⟩ = some (.pointer none) := (blk_cell hbox 0).trans rfl; have z41 : w3.cell? ⟨g4, 1, none⟩ = some (.slice none 0 0) := (blk_cell hbox 1).trans rfl; have f40 := blk_frozen hbox 0; have f41 := blk_frozen hbox 1; have k0 : w3.cell? ⟨g1, 0, none⟩ = some (.slice A0 l0.length c0) := (blk_cell (blk_below B1b.out hb) 0).trans rfl; have k1 : w3.cell? ⟨g1, 1, none⟩ = some (.slice A1 l1.length c1) := (blk_cell (blk_below B1b.out hb) 1).trans rfl; clear hg hbox hb n14)
    have HG4 := Aside0.mk (show w.heap.size ≤ g4 by rw [E4.out]; exact HB2.out.size)
    have B4s := blk_set (blk_set B4.out 0 (.pointer none)) 1 (.slice none 0 0)
    have B1s := blk_far (p := ⟨g4, 1, none⟩) (blk_far (p := ⟨g4, 0, none⟩) (blk_below B1b.out HB3.out) N14.out (.pointer none)) N14.out (.slice none 0 0)
    have HBs := below_set (g := g4) (j := 1) (v := .slice none 0 0) (below_set (g := g4) (j := 0) (v := .pointer none) (below_step HB2.out HB3.out) HG4.out) HG4.out
    have G14 := Aside0.mk (show g1 < g4 by rw [E4.out]; exact blk_lt B1b.out)
    generalize (w3.setCell ⟨g4, 0, none⟩ (.pointer none)).setCell ⟨g4, 1, none⟩ (.slice none 0 0) = w4 at B4s B1s HBs ⊢
    have I4 := Aside0.mk (ib_start (e := 5) (show w4.heap[g4]? = some (.cells #[.pointer none, .slice none 0 0] 59 (0, 0)) from B4s))
    have B1c := Aside0.mk B1s
    have HB4 := Aside0.mk HBs
    clear B4s B1s HBs z40 z41 f40 f41 k0 k1 n41 B4 HB3 E4 B1b
    go_loopg [16] l0.length (fun gk v16 w' => ∃ (pre suf : List S61), v16 = .int .i64 (pre.length : Int) ∧ Aside0 (l0 = pre ++ suf ∧ suf.length = gk) ∧ Aside0 (Lib.IsBuilder 59 5 g4 g4 (Lib.byteCells (pre.flatMap impl_PrintSheet.gT)) w') ∧ Aside0 (Below w.heap.size w w') ∧ Aside0 (w'.heap[g1]? = some (.cells #[.slice A0 l0.length c0, .slice A1 l1.length c1] 32 (0, 0))))
    case atStart => exact ⟨[], l0, rfl, ⟨rfl, rfl⟩, I4, HB4, B1c⟩
    case round =>
      clear I4 HB4 B1c
      obtain ⟨pre, suf, rfl, HP, HI, HB, B1⟩ := hrel
      cases suf with
      | cons g suf =>
        have HE := Aside0.mk HP.out.1
        have HLn := Aside0.mk (show pre.length < l0.length by rw [HP.out.1]; simp)
        have HM := Aside0.mk (show l0.length ≤ 9223372036854775807 by have := Kd.C_max HR0.out; first | exact this | (unfold maxLen at this; omega))
        have HGK := Aside0.mk HP.out.2
        have hpg : rd_T61 l0 (pre.length : Int) = g := by rw [HP.out.1]; show (pre ++ g :: suf).getD (pre.length : Int).toNat _ = g; rw [Int.toNat_natCast]; simp
        have HN1 := Aside0.mk (show -9223372036854775808 ≤ g.f1 ∧ g.f1 ≤ 9223372036854775807 by have := HL.out.1 g (by rw [HP.out.1]; simp); omega)
        have HLEN0 := Aside0.mk (show (pre.flatMap impl_PrintSheet.gT).length + (impl_PrintSheet.gT g).length ≤ 1073741824 by have h1 := HL.out.2.2; unfold impl_PrintSheet.text at h1; rw [List.length_append] at h1; have h2 := impl_PrintSheet.flat_at impl_PrintSheet.gT pre suf g; rw [← HP.out.1] at h2; omega)
        clear HP
        have d1 : decide ((pre.length : Int) < (l0.length : Int)) = true := decide_eq_true (by have := HLn.out; omega)
        have d2 : ((pre.length : Int) < (l0.length : Int)) = True := eq_true (by have := HLn.out; omega)
        have d3 : decide (pre.length < l0.length) = true := decide_eq_true HLn.out
        have d4 : (pre.length < l0.length) = True := eq_true HLn.out
        have p0 : (0 ≤ (pre.length : Int)) = True := eq_true (by omega)
        have p1 : decide (0 ≤ (pre.length : Int)) = true := decide_eq_true (by omega)
        have hx1 : wrap64 ((pre.length : Int) + 1) = ((pre.length + 1 : Nat) : Int) := by have := HLn.out; have := HM.out; unfold wrap64; omega
        obtain ⟨ad, e, hx_0, hx_1⟩ := at_T61 (Kd.C_below HR0.out HB.out) (pre.length : Int) (by omega) (by have := HLn.out; omega)
        cases e
        rw [hpg] at hx_0 hx_1
        (try simp only [Go.IntWalk.toNatUp] at hx_0)
        (try simp only [Go.IntWalk.toNatUp] at hx_1)
        clear hpg
        obtain ⟨NM, NU⟩ := g
        try go_wp2_with ((with_reducible refine gate_dst (N := 6) rfl ?_); refine box_event ?hg (N := 6) ?hd (cs := #[.string (⟨#[]⟩ : ByteArray), .int .i64 0]) (t := 61) ?hr ?_; (case hd => rfl); (case hg => rfl); (case hr => first | (go_simp; done) | (go_simp; rfl)); intro g6 hg w5 hbox hb; have B6a := Aside0.mk hbox; have HB6a := Aside0.mk hb; have E6 := Aside0.mk hg; have z60 : w5.cell? ⟨g6, 0, none⟩ = some (.string (⟨#[]⟩ : ByteArray)) := (blk_cell hbox 0).trans rfl; have z61 : w5.cell? ⟨g6, 1, none⟩ = some (.int .i64 0) := (blk_cell hbox 1).trans rfl; have f60 := blk_frozen hbox 0; have f61 := blk_frozen hbox 1; clear hg hbox hb)
        have HG6 := Aside0.mk (Nat.le_of_eq E6.out.symm)
        have B6s := blk_set (blk_set B6a.out 0 (.string NM)) 1 (.int .i64 NU)
        have HB6s := below_set (g := g6) (j := 1) (v := .int .i64 NU) (below_set (g := g6) (j := 0) (v := .string NM) HB6a.out HG6.out) HG6.out
        generalize (w5.setCell ⟨g6, 0, none⟩ (.string NM)).setCell ⟨g6, 1, none⟩ (.int .i64 NU) = w6 at B6s HB6s ⊢
        have B6 := Aside0.mk (show w6.heap[g6]? = some (.cells #[.string NM, .int .i64 NU] 61 (0, 0)) from B6s)
        have HIB := Aside0.mk (ib_below HI.out HB6s)
        have HB6 := Aside0.mk (below_step HB.out HB6s)
        have HG4b := Aside0.mk (show g4 ≤ w6.heap.size by have h1 := HB6s.size; rcases HI.out with hh_ | hh_ <;> (have h2 := hh_.lt; omega))
        have B1x := Aside0.mk (blk_below B1.out HB6s)
        clear B6s HB6s z60 z61 f60 f61 HB6a B6a E6 HG6 HI HB B1
        have s60 : w6.cell? ⟨g6, 0, none⟩ = some (.string NM) := (blk_cell B6.out 0).trans rfl
        have s61 : w6.cell? ⟨g6, 1, none⟩ = some (.int .i64 NU) := (blk_cell B6.out 1).trans rfl
        have hgl : (impl_PrintSheet.gT ⟨NM, NU⟩).length = 5 + NM.size + 1 + (Lib.itoa NU).length + 1 := by simp [impl_PrintSheet.gT]; omega
        have hsz := impl_PrintSheet.szs ⟨#[103, 111, 111, 100, 32]⟩ NM rfl NU
        have hl9 := HLEN0.out
        generalize hTX : pre.flatMap impl_PrintSheet.gT = TX at HIB hl9
        have HTX := Aside0.mk hTX
        have HLEN := Aside0.mk (show TX.length + ((((⟨#[103, 111, 111, 100, 32]⟩ ++ NM) ++ ⟨#[32]⟩) ++ ⟨(Lib.itoa NU).toArray⟩) ++ ⟨#[10]⟩ : ByteArray).size ≤ 140737488355328 by rw [hsz]; omega)
        have za0 : 5 + NM.size ≤ 9223372036854775807 := by omega
        have za1 := eq_true za0
        have za2 := decide_eq_true za0
        have za3 : (9223372036854775807 < 5 + NM.size) = False := eq_false (Nat.not_lt.2 za0)
        clear za0
        have zb0 : 5 + NM.size + 1 ≤ 9223372036854775807 := by omega
        have zb1 := eq_true zb0
        have zb2 := decide_eq_true zb0
        have zb3 : (9223372036854775807 < 5 + NM.size + 1) = False := eq_false (Nat.not_lt.2 zb0)
        clear zb0
        have zc0 : 5 + NM.size + 1 + (Lib.itoa NU).length ≤ 9223372036854775807 := by omega
        have zc1 := eq_true zc0
        have zc2 := decide_eq_true zc0
        have zc3 : (9223372036854775807 < 5 + NM.size + 1 + (Lib.itoa NU).length) = False := eq_false (Nat.not_lt.2 zc0)
        clear zc0
        have ze0 : 5 + NM.size + 1 + (Lib.itoa NU).length + 1 ≤ 9223372036854775807 := by omega
        have ze1 := eq_true ze0
        have ze2 := decide_eq_true ze0
        have ze3 : (9223372036854775807 < 5 + NM.size + 1 + (Lib.itoa NU).length + 1) = False := eq_false (Nat.not_lt.2 ze0)
        clear ze0
        clear hgl hsz hl9 hTX
        refine start_ (n := 10) (S := fun w' => w'.cell? ⟨g6, 0, none⟩ = some (.string NM) ∧ w'.cell? ⟨g6, 1, none⟩ = some (.int .i64 NU)) (ds := [9]) #[false, false, false, false, false, false, false, false, false, false] (by kernel_rfl) rfl rfl ⟨s60, s61⟩ (fun hHeld => ?_)
        refine pure_ (i := 0) (N := some 20) (v := ?_) (a' := ?_) #[true, false, false, false, false, false, false, false, false, false] rfl rfl (by kernel_rfl) (fun _ _ _ h => h) (Or.inl ⟨by rfl, ?_⟩) ?_ ?_
        rotate_left
        · intro w'
          go_simp
          with_reducible rfl
        rotate_left
        · simp only [Act.put, List.setIfInBounds_toArray, List.set_cons_zero, List.set_cons_succ, i64_w, i32_w]
          rfl
        refine pure_ (i := 4) (N := some 24) (v := ?_) (a' := ?_) #[true, false, false, false, true, false, false, false, false, false] rfl rfl (by kernel_rfl) (fun _ _ _ h => h) (Or.inl ⟨by rfl, ?_⟩) ?_ ?_
        rotate_left
        · intro w'
          go_simp
          with_reducible rfl
        rotate_left
        · simp only [Act.put, List.setIfInBounds_toArray, List.set_cons_zero, List.set_cons_succ, i64_w, i32_w]
          rfl
        refine take_ (i := 1) (N := some 21) (v := ?_) (a' := ?_) #[true, true, false, false, true, false, false, false, false, false] rfl rfl (by kernel_rfl) (fun _ _ _ h => h) (Or.inl ⟨by rfl, ?_⟩) hHeld ?_ ?_
        rotate_left
        · rintro w' ⟨s0, s1⟩
          go_simp
          with_reducible rfl
        rotate_left
        · simp only [Act.put, List.setIfInBounds_toArray, List.set_cons_zero, List.set_cons_succ, i64_w, i32_w]
          rfl
        refine pure_ (i := 2) (N := some 22) (v := ?_) (a' := ?_) #[true, true, true, false, true, false, false, false, false, false] rfl rfl (by kernel_rfl) (fun _ _ _ h => h) (Or.inl ⟨by rfl, ?_⟩) ?_ ?_
        rotate_left
        · intro w'
          go_simp
          with_reducible rfl
        rotate_left
        · simp only [Act.put, List.setIfInBounds_toArray, List.set_cons_zero, List.set_cons_succ, i64_w, i32_w]
          rfl
        refine pure_ (i := 3) (N := some 23) (v := ?_) (a' := ?_) #[true, true, true, true, true, false, false, false, false, false] rfl rfl (by kernel_rfl) (fun _ _ _ h => h) (Or.inl ⟨by rfl, ?_⟩) ?_ ?_
        rotate_left
        · intro w'
          go_simp
          with_reducible rfl
        rotate_left
        · simp only [Act.put, List.setIfInBounds_toArray, List.set_cons_zero, List.set_cons_succ, i64_w, i32_w]
          rfl
        refine take_ (i := 5) (N := some 25) (v := ?_) (a' := ?_) #[true, true, true, true, true, true, false, false, false, false] rfl rfl (by kernel_rfl) (fun _ _ _ h => h) (Or.inl ⟨by rfl, ?_⟩) hHeld ?_ ?_
        rotate_left
        · rintro w' ⟨s0, s1⟩
          go_simp
          with_reducible rfl
        rotate_left
        · simp only [Act.put, List.setIfInBounds_toArray, List.set_cons_zero, List.set_cons_succ, i64_w, i32_w]
          rfl
        refine one_ (i := 6) (N := some 26) #[true, true, true, true, true, true, true, false, false, false] rfl rfl (by kernel_rfl) (by decide) (fun K hK => ?_)
        refine goes_ Tryd.func32 (by kernel_rfl) rfl #[.int .i64 NU] (by rfl) rfl rfl (by simp only [List.map_toArray, List.map_cons, List.map_nil]; rfl) ?_
        (with_reducible refine (impl_PrintSheet.itoa NU HN1.out.1 HN1.out.2 _ (tab_below_ impl_PrintSheet.tabNo HTAB.out (below_drew1 HB6.out))).mono ?_)
        rintro e_ wi ⟨rfl, hbi_⟩
        refine ⟨_, rfl, ?_⟩
        have HBI := Aside0.mk (below_step (below_drew1 (Below.refl w6.heap.size w6)) hbi_)
        clear hbi_
        refine hK.out _ _ ⟨(blk_cell (blk_below B6.out HBI.out) 0).trans rfl, (blk_cell (blk_below B6.out HBI.out) 1).trans rfl⟩ (fun hHeld => ?_)
        clear hK K
        refine norm_ (a' := ?_) ?_ ?_
        rotate_left
        · show Act.put _ (some 26) _ = _
          simp only [Act.put, List.setIfInBounds_toArray, List.set_cons_zero, List.set_cons_succ, i64_w, i32_w]
          rfl
        refine pure_ (i := 7) (N := some 27) (v := ?_) (a' := ?_) #[true, true, true, true, true, true, true, true, false, false] rfl rfl (by kernel_rfl) (fun _ _ _ h => h) (Or.inl ⟨by rfl, ?_⟩) ?_ ?_
        rotate_left
        · intro w'
          go_simp
          with_reducible rfl
        rotate_left
        · simp only [Act.put, List.setIfInBounds_toArray, List.set_cons_zero, List.set_cons_succ, i64_w, i32_w]
          rfl
        refine pure_ (i := 8) (N := some 28) (v := ?_) (a' := ?_) #[true, true, true, true, true, true, true, true, true, false] rfl rfl (by kernel_rfl) (fun _ _ _ h => h) (Or.inl ⟨by rfl, ?_⟩) ?_ ?_
        rotate_left
        · intro w'
          go_simp
          with_reducible rfl
        rotate_left
        · simp only [Act.put, List.setIfInBounds_toArray, List.set_cons_zero, List.set_cons_succ, i64_w, i32_w]
          rfl
        refine last_ (i := 9) (N := some 29) #[true, true, true, true, true, true, true, true, true, true] rfl rfl (by kernel_rfl) (by decide) (fun K hK => ?_)
        refine goes_ Tryd.func31 (by kernel_rfl) rfl #[.pointer (some ⟨g4, 0, none⟩), .string ((((⟨#[103, 111, 111, 100, 32]⟩ ++ NM) ++ ⟨#[32]⟩) ++ ⟨(Lib.itoa NU).toArray⟩) ++ ⟨#[10]⟩)] (by rfl) rfl rfl (by simp only [List.map_toArray, List.map_cons, List.map_nil]; rfl) ?_
        (with_reducible refine (impl_PrintSheet.ws g4 TX ((((⟨#[103, 111, 111, 100, 32]⟩ ++ NM) ++ ⟨#[32]⟩) ++ ⟨(Lib.itoa NU).toArray⟩) ++ ⟨#[10]⟩) wi (ib_below HIB.out HBI.out) HLEN.out (by have := HBI.out.size; have := HG4b.out; omega)).mono ?_)
        rintro e_ ww ⟨rfl, hat_, hbw_⟩
        refine ⟨_, rfl, ?_⟩
        have HAT := Aside0.mk hat_; have HBW := Aside0.mk hbw_; clear hat_ hbw_
        refine hK.out _ _ ?_
        clear hK K
        refine norm_ (a' := ?_) ?_ ?_
        rotate_left
        · show Act.put _ (some 29) _ = _
          simp only [Act.put, List.setIfInBounds_toArray, List.set_cons_zero, List.set_cons_succ, i64_w, i32_w]
          rfl
        refine done_ (by kernel_rfl) ?_
        go_wp2_with fail
        go_roundg suf.length
        case measure => have := HGK.out; simp at this; omega
        case rel =>
          refine ⟨pre ++ [⟨NM, NU⟩], suf, ?_, ⟨?_, rfl⟩, ⟨?_⟩, ⟨(below_step HB6.out HBI.out).trans (HBW.out.mono HG4.out)⟩, ⟨(HBW.out.block g1 G14.out).trans (blk_below B1x.out HBI.out)⟩⟩
          · rw [List.length_append, List.length_singleton]; first | rfl | rw [hx1]
          · rw [HE.out]; simp
          · have h1 := HAT.out
            rw [impl_PrintSheet.g_str] at h1
            rw [List.flatMap_append, HTX.out, List.flatMap_cons, List.flatMap_nil, List.append_nil]
            exact h1
      | nil =>
        have hpre : l0 = pre := by rw [HP.out.1]; simp
        have d1 : decide ((pre.length : Int) < (l0.length : Int)) = false := decide_eq_false (by rw [← hpre]; omega)
        have d2 : ((pre.length : Int) < (l0.length : Int)) = False := eq_false (by rw [← hpre]; omega)
        have d3 : decide (pre.length < l0.length) = false := decide_eq_false (by rw [← hpre]; omega)
        have d4 : (pre.length < l0.length) = False := eq_false (by rw [← hpre]; omega)
        have I4 := Aside0.mk (show Lib.IsBuilder 59 5 g4 g4 (Lib.byteCells (l0.flatMap impl_PrintSheet.gT ++ ([] : List S68).flatMap (impl_PrintSheet.lT l0))) wr by rw [List.flatMap_nil, List.append_nil, hpre]; exact HI.out)
        have k0 : wr.cell? ⟨g1, 0, none⟩ = some (.slice A0 l0.length c0) := (blk_cell B1.out 0).trans rfl
        have k1 : wr.cell? ⟨g1, 1, none⟩ = some (.slice A1 l1.length c1) := (blk_cell B1.out 1).trans rfl
        clear HP hpre HI
        go_wp2_with fail
        clear k0 k1 d1 d2 d3 d4
        go_loopg [34] l1.length (fun gk2 v34 w' => ∃ (pre2 suf2 : List S68), v34 = .int .i64 (pre2.length : Int) ∧ Aside0 (l1 = pre2 ++ suf2 ∧ suf2.length = gk2) ∧ Aside0 (Lib.IsBuilder 59 5 g4 g4 (Lib.byteCells (l0.flatMap impl_PrintSheet.gT ++ pre2.flatMap (impl_PrintSheet.lT l0))) w') ∧ Aside0 (Below w.heap.size w w') ∧ Aside0 (w'.heap[g1]? = some (.cells #[.slice A0 l0.length c0, .slice A1 l1.length c1] 32 (0, 0))))
        case atStart => exact ⟨[], l1, rfl, ⟨rfl, rfl⟩, I4, HB, B1⟩
        case round =>
          clear I4 HB B1
          obtain ⟨pre2, suf2, rfl, HP, HI, HB, B1⟩ := hrel
          cases suf2 with
          | cons x suf2 =>
            have HE := Aside0.mk HP.out.1
            have HLn := Aside0.mk (show pre2.length < l1.length by rw [HP.out.1]; simp)
            have HM := Aside0.mk (show l1.length ≤ 9223372036854775807 by have := Kd.C_max HR1.out; first | exact this | (unfold maxLen at this; omega))
            have HGK := Aside0.mk HP.out.2
            have hpg : rd_T68 l1 (pre2.length : Int) = x := by rw [HP.out.1]; show (pre2 ++ x :: suf2).getD (pre2.length : Int).toNat _ = x; rw [Int.toNat_natCast]; simp
            have hxx := HL.out.2.1 x (by rw [HP.out.1]; simp)
            have HN1 := Aside0.mk (show -9223372036854775808 ≤ x.f1 ∧ x.f1 ≤ 9223372036854775807 by omega)
            have HNI := Aside0.mk hxx.1
            have HLEN0 := Aside0.mk (show (l0.flatMap impl_PrintSheet.gT ++ pre2.flatMap (impl_PrintSheet.lT l0)).length + (impl_PrintSheet.lT l0 x).length ≤ 1073741824 by have h1 := HL.out.2.2; unfold impl_PrintSheet.text at h1; rw [List.length_append] at h1 ⊢; have h2 := impl_PrintSheet.flat_at (impl_PrintSheet.lT l0) pre2 suf2 x; rw [← HP.out.1] at h2; omega)
            clear HP hxx
            have d1 : decide ((pre2.length : Int) < (l1.length : Int)) = true := decide_eq_true (by have := HLn.out; omega)
            have d2 : ((pre2.length : Int) < (l1.length : Int)) = True := eq_true (by have := HLn.out; omega)
            have d3 : decide (pre2.length < l1.length) = true := decide_eq_true HLn.out
            have d4 : (pre2.length < l1.length) = True := eq_true HLn.out
            have p0 : (0 ≤ (pre2.length : Int)) = True := eq_true (by omega)
            have p1 : decide (0 ≤ (pre2.length : Int)) = true := decide_eq_true (by omega)
            have hx1 : wrap64 ((pre2.length : Int) + 1) = ((pre2.length + 1 : Nat) : Int) := by have := HLn.out; have := HM.out; unfold wrap64; omega
            obtain ⟨ad1, e, hx_0, hx_1⟩ := at_T68 (Kd.C_below HR1.out HB.out) (pre2.length : Int) (by omega) (by have := HLn.out; omega)
            cases e
            rw [hpg] at hx_0 hx_1
            (try simp only [Go.IntWalk.toNatUp] at hx_0)
            (try simp only [Go.IntWalk.toNatUp] at hx_1)
            clear hpg
            obtain ⟨NI, NU⟩ := x
            try go_wp2_with ((with_reducible refine gate_dst (N := 8) rfl ?_); refine box_event ?hg (N := 8) ?hd (cs := #[.int .i64 0, .int .i64 0]) (t := 68) ?hr ?_; (case hd => rfl); (case hg => rfl); (case hr => first | (go_simp; done) | (go_simp; rfl)); intro g8 hg w5 hbox hb; have B6a := Aside0.mk hbox; have HB6a := Aside0.mk hb; have E6 := Aside0.mk hg; have z60 : w5.cell? ⟨g8, 0, none⟩ = some (.int .i64 0) := (blk_cell hbox 0).trans rfl; have z61 : w5.cell? ⟨g8, 1, none⟩ = some (.int .i64 0) := (blk_cell hbox 1).trans rfl; have f60 := blk_frozen hbox 0; have f61 := blk_frozen hbox 1; clear hg hbox hb)
            have HG6 := Aside0.mk (Nat.le_of_eq E6.out.symm)
            have B6s := blk_set (blk_set B6a.out 0 (.int .i64 NI)) 1 (.int .i64 NU)
            have HB6s := below_set (g := g8) (j := 1) (v := .int .i64 NU) (below_set (g := g8) (j := 0) (v := .int .i64 NI) HB6a.out HG6.out) HG6.out
            generalize (w5.setCell ⟨g8, 0, none⟩ (.int .i64 NI)).setCell ⟨g8, 1, none⟩ (.int .i64 NU) = w6 at B6s HB6s ⊢
            have B6 := Aside0.mk (show w6.heap[g8]? = some (.cells #[.int .i64 NI, .int .i64 NU] 68 (0, 0)) from B6s)
            have HIB := Aside0.mk (ib_below HI.out HB6s)
            have HB6 := Aside0.mk (below_step HB.out HB6s)
            have HG4b := Aside0.mk (show g4 ≤ w6.heap.size by have h1 := HB6s.size; rcases HI.out with hh_ | hh_ <;> (have h2 := hh_.lt; omega))
            have B1y := Aside0.mk (blk_below B1.out HB6s)
            clear B6s HB6s z60 z61 f60 f61 HB6a B6a E6 HG6 HI HB B1
            obtain ⟨ad, e, sNM, _⟩ := at_T61 (Kd.C_below HR0.out HB6.out) NI HNI.out.1 HNI.out.2
            cases e
            have q0 : (0 ≤ NI) = True := eq_true HNI.out.1
            have q1 : decide (0 ≤ NI) = true := decide_eq_true HNI.out.1
            have q2 : (NI < (l0.length : Int)) = True := eq_true HNI.out.2
            have q3 : decide (NI < (l0.length : Int)) = true := decide_eq_true HNI.out.2
            obtain ⟨NM, hNM⟩ : ∃ z, z = (rd_T61 l0 NI).f0 := ⟨_, rfl⟩
            have HNM := Aside0.mk hNM
            rw [← hNM] at sNM
            have SNM := Aside0.mk sNM
            have B1x := B1y
            have s10 : w6.cell? ⟨g1, 0, none⟩ = some (.slice (some ad) l0.length c0) := (blk_cell B1x.out 0).trans rfl
            have s80 : w6.cell? ⟨g8, 0, none⟩ = some (.int .i64 NI) := (blk_cell B6.out 0).trans rfl
            have s81 : w6.cell? ⟨g8, 1, none⟩ = some (.int .i64 NU) := (blk_cell B6.out 1).trans rfl
            have hgl : (impl_PrintSheet.lT l0 ⟨NI, NU⟩).length = 5 + NM.size + 1 + (Lib.itoa NU).length + 1 := by rw [hNM]; simp [impl_PrintSheet.lT]; omega
            have hsz := impl_PrintSheet.szs ⟨#[112, 105, 99, 107, 32]⟩ NM rfl NU
            have hl9 := HLEN0.out
            generalize hTX : l0.flatMap impl_PrintSheet.gT ++ pre2.flatMap (impl_PrintSheet.lT l0) = TX at HIB hl9
            have HTX := Aside0.mk hTX
            have HLEN := Aside0.mk (show TX.length + ((((⟨#[112, 105, 99, 107, 32]⟩ ++ NM) ++ ⟨#[32]⟩) ++ ⟨(Lib.itoa NU).toArray⟩) ++ ⟨#[10]⟩ : ByteArray).size ≤ 140737488355328 by rw [hsz]; omega)
            have za0 : 5 + NM.size ≤ 9223372036854775807 := by omega
            have za1 := eq_true za0
            have za2 := decide_eq_true za0
            have za3 : (9223372036854775807 < 5 + NM.size) = False := eq_false (Nat.not_lt.2 za0)
            clear za0
            have zb0 : 5 + NM.size + 1 ≤ 9223372036854775807 := by omega
            have zb1 := eq_true zb0
            have zb2 := decide_eq_true zb0
            have zb3 : (9223372036854775807 < 5 + NM.size + 1) = False := eq_false (Nat.not_lt.2 zb0)
            clear zb0
            have zc0 : 5 + NM.size + 1 + (Lib.itoa NU).length ≤ 9223372036854775807 := by omega
            have zc1 := eq_true zc0
            have zc2 := decide_eq_true zc0
            have zc3 : (9223372036854775807 < 5 + NM.size + 1 + (Lib.itoa NU).length) = False := eq_false (Nat.not_lt.2 zc0)
            clear zc0
            have ze0 : 5 + NM.size + 1 + (Lib.itoa NU).length + 1 ≤ 9223372036854775807 := by omega
            have ze1 := eq_true ze0
            have ze2 := decide_eq_true ze0
            have ze3 : (9223372036854775807 < 5 + NM.size + 1 + (Lib.itoa NU).length + 1) = False := eq_false (Nat.not_lt.2 ze0)
            clear ze0
            clear hgl hsz hl9 hTX hNM
            refine start_ (n := 15) (S := fun w' => w'.cell? ⟨g1, 0, none⟩ = some (.slice (some ad) l0.length c0) ∧ w'.cell? ⟨g8, 0, none⟩ = some (.int .i64 NI) ∧ w'.cell? ⟨g8, 1, none⟩ = some (.int .i64 NU) ∧ w'.cell? (ad.add (NI.toNat * 2)) = some (.string NM)) (ds := [14]) #[false, false, false, false, false, false, false, false, false, false, false, false, false, false, false] (by kernel_rfl) rfl rfl ⟨s10, s80, s81, sNM⟩ (fun hHeld => ?_)
            refine pure_ (i := 0) (N := some 38) (v := ?_) (a' := ?_) #[true, false, false, false, false, false, false, false, false, false, false, false, false, false, false] rfl rfl (by kernel_rfl) (fun _ _ _ h => h) (Or.inl ⟨by rfl, ?_⟩) ?_ ?_
            rotate_left
            · intro w'
              go_simp
              with_reducible rfl
            rotate_left
            · simp only [Act.put, List.setIfInBounds_toArray, List.set_cons_zero, List.set_cons_succ, i64_w, i32_w]
              rfl
            refine pure_ (i := 2) (N := some 40) (v := ?_) (a' := ?_) #[true, false, true, false, false, false, false, false, false, false, false, false, false, false, false] rfl rfl (by kernel_rfl) (fun _ _ _ h => h) (Or.inl ⟨by rfl, ?_⟩) ?_ ?_
            rotate_left
            · intro w'
              go_simp
              with_reducible rfl
            rotate_left
            · simp only [Act.put, List.setIfInBounds_toArray, List.set_cons_zero, List.set_cons_succ, i64_w, i32_w]
              rfl
            refine pure_ (i := 9) (N := some 47) (v := ?_) (a' := ?_) #[true, false, true, false, false, false, false, false, false, true, false, false, false, false, false] rfl rfl (by kernel_rfl) (fun _ _ _ h => h) (Or.inl ⟨by rfl, ?_⟩) ?_ ?_
            rotate_left
            · intro w'
              go_simp
              with_reducible rfl
            rotate_left
            · simp only [Act.put, List.setIfInBounds_toArray, List.set_cons_zero, List.set_cons_succ, i64_w, i32_w]
              rfl
            refine take_ (i := 1) (N := some 39) (v := ?_) (a' := ?_) #[true, true, true, false, false, false, false, false, false, true, false, false, false, false, false] rfl rfl (by kernel_rfl) (fun _ _ _ h => h) (Or.inl ⟨by rfl, ?_⟩) hHeld ?_ ?_
            rotate_left
            · rintro w' ⟨s0, s1, s2, s3⟩
              go_simp
              with_reducible rfl
            rotate_left
            · simp only [Act.put, List.setIfInBounds_toArray, List.set_cons_zero, List.set_cons_succ, i64_w, i32_w]
              rfl
            refine take_ (i := 3) (N := some 41) (v := ?_) (a' := ?_) #[true, true, true, true, false, false, false, false, false, true, false, false, false, false, false] rfl rfl (by kernel_rfl) (fun _ _ _ h => h) (Or.inl ⟨by rfl, ?_⟩) hHeld ?_ ?_
            rotate_left
            · rintro w' ⟨s0, s1, s2, s3⟩
              go_simp
              with_reducible rfl
            rotate_left
            · simp only [Act.put, List.setIfInBounds_toArray, List.set_cons_zero, List.set_cons_succ, i64_w, i32_w]
              rfl
            refine pure_ (i := 4) (N := some 42) (v := ?_) (a' := ?_) #[true, true, true, true, true, false, false, false, false, true, false, false, false, false, false] rfl rfl (by kernel_rfl) (fun _ _ _ h => h) (Or.inl ⟨by rfl, ?_⟩) ?_ ?_
            rotate_left
            · intro w'
              go_simp
              with_reducible rfl
            rotate_left
            · simp only [Act.put, List.setIfInBounds_toArray, List.set_cons_zero, List.set_cons_succ, i64_w, i32_w]
              rfl
            refine pure_ (i := 5) (N := some 43) (v := ?_) (a' := ?_) #[true, true, true, true, true, true, false, false, false, true, false, false, false, false, false] rfl rfl (by kernel_rfl) (fun _ _ _ h => h) (Or.inl ⟨by rfl, ?_⟩) ?_ ?_
            rotate_left
            · intro w'
              go_simp
              with_reducible rfl
            rotate_left
            · simp only [Act.put, List.setIfInBounds_toArray, List.set_cons_zero, List.set_cons_succ, i64_w, i32_w]
              rfl
            refine take_ (i := 6) (N := some 44) (v := ?_) (a' := ?_) #[true, true, true, true, true, true, true, false, false, true, false, false, false, false, false] rfl rfl (by kernel_rfl) (fun _ _ _ h => h) (Or.inl ⟨by rfl, ?_⟩) hHeld ?_ ?_
            rotate_left
            · rintro w' ⟨s0, s1, s2, s3⟩
              go_simp
              with_reducible rfl
            rotate_left
            · simp only [Act.put, List.setIfInBounds_toArray, List.set_cons_zero, List.set_cons_succ, i64_w, i32_w]
              rfl
            refine pure_ (i := 7) (N := some 45) (v := ?_) (a' := ?_) #[true, true, true, true, true, true, true, true, false, true, false, false, false, false, false] rfl rfl (by kernel_rfl) (fun _ _ _ h => h) (Or.inl ⟨by rfl, ?_⟩) ?_ ?_
            rotate_left
            · intro w'
              go_simp
              with_reducible rfl
            rotate_left
            · simp only [Act.put, List.setIfInBounds_toArray, List.set_cons_zero, List.set_cons_succ, i64_w, i32_w]
              rfl
            refine pure_ (i := 8) (N := some 46) (v := ?_) (a' := ?_) #[true, true, true, true, true, true, true, true, true, true, false, false, false, false, false] rfl rfl (by kernel_rfl) (fun _ _ _ h => h) (Or.inl ⟨by rfl, ?_⟩) ?_ ?_
            rotate_left
            · intro w'
              go_simp
              with_reducible rfl
            rotate_left
            · simp only [Act.put, List.setIfInBounds_toArray, List.set_cons_zero, List.set_cons_succ, i64_w, i32_w]
              rfl
            refine take_ (i := 10) (N := some 48) (v := ?_) (a' := ?_) #[true, true, true, true, true, true, true, true, true, true, true, false, false, false, false] rfl rfl (by kernel_rfl) (fun _ _ _ h => h) (Or.inl ⟨by rfl, ?_⟩) hHeld ?_ ?_
            rotate_left
            · rintro w' ⟨s0, s1, s2, s3⟩
              go_simp
              with_reducible rfl
            rotate_left
            · simp only [Act.put, List.setIfInBounds_toArray, List.set_cons_zero, List.set_cons_succ, i64_w, i32_w]
              rfl
            refine one_ (i := 11) (N := some 49) #[true, true, true, true, true, true, true, true, true, true, true, true, false, false, false] rfl rfl (by kernel_rfl) (by decide) (fun K hK => ?_)
            refine goes_ Tryd.func32 (by kernel_rfl) rfl #[.int .i64 NU] (by rfl) rfl rfl (by simp only [List.map_toArray, List.map_cons, List.map_nil]; rfl) ?_
            (with_reducible refine (impl_PrintSheet.itoa NU HN1.out.1 HN1.out.2 _ (tab_below_ impl_PrintSheet.tabNo HTAB.out (below_drew1 HB6.out))).mono ?_)
            rintro e_ wi ⟨rfl, hbi_⟩
            refine ⟨_, rfl, ?_⟩
            have HBI := Aside0.mk (below_step (below_drew1 (Below.refl w6.heap.size w6)) hbi_)
            clear hbi_
            refine hK.out _ _ ⟨(blk_cell (blk_below B1x.out HBI.out) 0).trans rfl, (blk_cell (blk_below B6.out HBI.out) 0).trans rfl, (blk_cell (blk_below B6.out HBI.out) 1).trans rfl, (HBI.out.cell (World.block_lt_of_cell? w6 _ SNM.out)).trans SNM.out⟩ (fun hHeld => ?_)
            clear hK K
            refine norm_ (a' := ?_) ?_ ?_
            rotate_left
            · show Act.put _ (some 49) _ = _
              simp only [Act.put, List.setIfInBounds_toArray, List.set_cons_zero, List.set_cons_succ, i64_w, i32_w]
              rfl
            refine pure_ (i := 12) (N := some 50) (v := ?_) (a' := ?_) #[true, true, true, true, true, true, true, true, true, true, true, true, true, false, false] rfl rfl (by kernel_rfl) (fun _ _ _ h => h) (Or.inl ⟨by rfl, ?_⟩) ?_ ?_
            rotate_left
            · intro w'
              go_simp
              with_reducible rfl
            rotate_left
            · simp only [Act.put, List.setIfInBounds_toArray, List.set_cons_zero, List.set_cons_succ, i64_w, i32_w]
              rfl
            refine pure_ (i := 13) (N := some 51) (v := ?_) (a' := ?_) #[true, true, true, true, true, true, true, true, true, true, true, true, true, true, false] rfl rfl (by kernel_rfl) (fun _ _ _ h => h) (Or.inl ⟨by rfl, ?_⟩) ?_ ?_
            rotate_left
            · intro w'
              go_simp
              with_reducible rfl
            rotate_left
            · simp only [Act.put, List.setIfInBounds_toArray, List.set_cons_zero, List.set_cons_succ, i64_w, i32_w]
              rfl
            refine last_ (i := 14) (N := some 52) #[true, true, true, true, true, true, true, true, true, true, true, true, true, true, true] rfl rfl (by kernel_rfl) (by decide) (fun K hK => ?_)
            refine goes_ Tryd.func31 (by kernel_rfl) rfl #[.pointer (some ⟨g4, 0, none⟩), .string ((((⟨#[112, 105, 99, 107, 32]⟩ ++ NM) ++ ⟨#[32]⟩) ++ ⟨(Lib.itoa NU).toArray⟩) ++ ⟨#[10]⟩)] (by rfl) rfl rfl (by simp only [List.map_toArray, List.map_cons, List.map_nil]; rfl) ?_
            (with_reducible refine (impl_PrintSheet.ws g4 TX ((((⟨#[112, 105, 99, 107, 32]⟩ ++ NM) ++ ⟨#[32]⟩) ++ ⟨(Lib.itoa NU).toArray⟩) ++ ⟨#[10]⟩) wi (ib_below HIB.out HBI.out) HLEN.out (by have := HBI.out.size; have := HG4b.out; omega)).mono ?_)
            rintro e_ ww ⟨rfl, hat_, hbw_⟩
            refine ⟨_, rfl, ?_⟩
            have HAT := Aside0.mk hat_; have HBW := Aside0.mk hbw_; clear hat_ hbw_
            refine hK.out _ _ ?_
            clear hK K
            refine norm_ (a' := ?_) ?_ ?_
            rotate_left
            · show Act.put _ (some 52) _ = _
              simp only [Act.put, List.setIfInBounds_toArray, List.set_cons_zero, List.set_cons_succ, i64_w, i32_w]
              rfl
            refine done_ (by kernel_rfl) ?_
            go_wp2_with fail
            go_roundg suf2.length
            case measure => have := HGK.out; simp at this; omega
            case rel =>
              refine ⟨pre2 ++ [⟨NI, NU⟩], suf2, ?_, ⟨?_, rfl⟩, ⟨?_⟩, ⟨(below_step HB6.out HBI.out).trans (HBW.out.mono HG4.out)⟩, ⟨(HBW.out.block g1 G14.out).trans (blk_below B1x.out HBI.out)⟩⟩
              · rw [List.length_append, List.length_singleton]; first | rfl | rw [hx1]
              · rw [HE.out]; simp
              · have h1 := HAT.out
                rw [impl_PrintSheet.l_str] at h1
                rw [List.flatMap_append, ← List.append_assoc, HTX.out, List.flatMap_cons, List.flatMap_nil, List.append_nil]
                unfold impl_PrintSheet.lT
                rw [← HNM.out]
                exact h1
          | nil =>
            have hpre : l1 = pre2 := by rw [HP.out.1]; simp
            have d1 : decide ((pre2.length : Int) < (l1.length : Int)) = false := decide_eq_false (by rw [← hpre]; omega)
            have d2 : ((pre2.length : Int) < (l1.length : Int)) = False := eq_false (by rw [← hpre]; omega)
            have d3 : decide (pre2.length < l1.length) = false := decide_eq_false (by rw [← hpre]; omega)
            have d4 : (pre2.length < l1.length) = False := eq_false (by rw [← hpre]; omega)
            have HX := Aside0.mk (show Lib.IsBuilder 59 5 g4 g4 (Lib.byteCells (impl_PrintSheet.text l0 l1)) wr by unfold impl_PrintSheet.text; rw [hpre]; have h9 := HI.out; rw [← hpre] at h9 ⊢; exact h9)
            have HG4b := Aside0.mk (show g4 ≤ wr.heap.size by rcases HI.out with hh_ | hh_ <;> (have h2 := hh_.lt; omega))
            clear HP hpre HI
            go_wp2_with fail
            go_at_call 33
            refine (impl_PrintSheet.str g4 (impl_PrintSheet.text l0 l1) _ HX.out HG4b.out).mono ?_
            rintro e w7 ⟨rfl, hb7⟩
            have HB7 := Aside0.mk (HB.out.trans (hb7.mono HG4.out))
            clear hb7
            go_wp2_with fail
            go_ret2
            exact ⟨rfl, HB7.out⟩

/-! ### laws_eqGood: function 57 -/
def laws_eqGood.f (a0_0 : ByteArray) (a0_1 : Int) (a1_0 : ByteArray) (a1_1 : Int) : Option (Bool) := if a0_0.toList = a1_0.toList then (if a0_1 = a1_1 then (some true) else (some false)) else (some false)
set_option maxHeartbeats 8000000 in
set_option maxRecDepth 100000 in
theorem laws_eqGood.calls (a0_0 : ByteArray) (a0_1 : Int) (a1_0 : ByteArray) (a1_1 : Int) (r : Bool) (w : World) (h : laws_eqGood.f a0_0 a0_1 a1_0 a1_1 = some r) :
    Calls Tryd.prog 57 #[.agg #[.string a0_0, .int .i64 a0_1], .agg #[.string a1_0, .int .i64 a1_1]] w fun e w' => e = .returned (.bool r) ∧ Below w.heap.size w w' := by
  have hu61 := Tryd.underlying61
  have HB := Aside0.mk (Below.refl w.heap.size w)
  have H : (if a0_0.toList = a1_0.toList then (if a0_1 = a1_1 then (some true) else (some false)) else (some false)) = some r := h
  clear h
  by_cases c3 : a0_0.toList = a1_0.toList
  · rw [if_pos c3] at H
    have c3b0 : (a0_0.toList == a1_0.toList) = true := beq_iff_eq.mpr c3
    have c3b1 : (a0_0.toList != a1_0.toList) = false := bne_eq_false_iff_eq.mpr c3
    clear c3
    by_cases c4 : a0_1 = a1_1
    · rw [if_pos c4] at H
      have c4b0 : (a0_1 == a1_1) = true := beq_iff_eq.mpr c4
      have c4b1 : (a0_1 != a1_1) = false := bne_eq_false_iff_eq.mpr c4
      clear c4
      obtain rfl := Option.some.inj H
      go_enter Tryd.func57, Tryd.ntmps57
      go_wp2_with (first | ((with_reducible refine gate_dst (N := 2) rfl ?_); refine box_event ?hg (N := 2) ?hd (cs := #[.string a0_0, .int .i64 a0_1]) (t := 61) ?hr ?_; (case hd => rfl); (case hg => rfl); (case hr => first | (go_simp; done) | (go_simp; rfl)); intro gb200 hg w5 hbox hb; have n0_ := Aside0.mk (below_step (by repeat (first | (with_reducible first | exact HB.out | apply below_alloc | apply pw_below_drewN | apply below_drew1) | exact HB.out)) hb); have n1_ := Aside0.mk (hbox); have n2_ := Aside0.mk ((by rw [hg]; exact (below_size (by repeat (first | (with_reducible first | exact HB.out | apply below_alloc | apply pw_below_drewN | apply below_drew1) | exact HB.out))) : w.heap.size ≤ gb200)); have n3_ := Aside0.mk ((by rw [hg]; exact (below_size (by repeat (first | (with_reducible first | exact HB.out | apply below_alloc | apply pw_below_drewN | apply below_drew1) | exact HB.out))) : w.heap.size ≤ gb200)); clear HB; have HB := n0_; have BK200 := n1_; have GW200 := n2_; have GE200 := n3_; clear n0_ n1_ n2_ n3_; clear hb hbox hg) | ((with_reducible refine gate_dst (N := 3) rfl ?_); refine box_event ?hg (N := 3) ?hd (cs := #[.string a1_0, .int .i64 a1_1]) (t := 61) ?hr ?_; (case hd => rfl); (case hg => rfl); (case hr => first | (go_simp; done) | (go_simp; rfl)); intro gb201 hg w6 hbox hb; have n0_ := Aside0.mk (blk_below (g := gb200) (o := .cells #[.string a0_0, .int .i64 a0_1] 61 (0, 0)) (by (with_reducible repeat (first | refine blk_drewN ?_ _ | refine blk_drew ?_ | refine blk_alloc ?_ _)); exact BK200.out) hb); have n1_ := Aside0.mk (below_step (by repeat (first | (with_reducible first | exact HB.out | apply below_alloc | apply pw_below_drewN | apply below_drew1 | refine below_set ?_ GE200.out) | exact HB.out)) hb); have n2_ := Aside0.mk (hbox); have n3_ := Aside0.mk ((by rw [hg]; exact (below_size (by repeat (first | (with_reducible first | exact HB.out | apply below_alloc | apply pw_below_drewN | apply below_drew1 | refine below_set ?_ GE200.out) | exact HB.out))) : w.heap.size ≤ gb201)); have n4_ := Aside0.mk ((by rw [hg]; exact (below_size (by repeat (first | (with_reducible first | exact HB.out | apply below_alloc | apply pw_below_drewN | apply below_drew1 | refine below_set ?_ GE200.out) | exact HB.out))) : w.heap.size ≤ gb201)); have n5_ := Aside0.mk ((by rw [hg]; exact Nat.ne_of_lt (blk_lt (g := gb200) (o := .cells #[.string a0_0, .int .i64 a0_1] 61 (0, 0)) (by (with_reducible repeat (first | refine blk_drewN ?_ _ | refine blk_drew ?_ | refine blk_alloc ?_ _)); exact BK200.out)) : gb200 ≠ gb201)); have n6_ := Aside0.mk ((by rw [hg]; exact Nat.ne_of_gt (blk_lt (g := gb200) (o := .cells #[.string a0_0, .int .i64 a0_1] 61 (0, 0)) (by (with_reducible repeat (first | refine blk_drewN ?_ _ | refine blk_drew ?_ | refine blk_alloc ?_ _)); exact BK200.out)) : gb201 ≠ gb200)); clear BK200; clear HB; have BK200 := n0_; have HB := n1_; have BK201 := n2_; have GW201 := n3_; have GE201 := n4_; have NB200_201 := n5_; have NB201_200 := n6_; clear n0_ n1_ n2_ n3_ n4_ n5_ n6_; clear hb hbox hg; have hnb7 := NB200_201.out; have hnc7 := NB201_200.out; have hcz8_0 : w6.cell? ⟨gb200, 0, none⟩ = some (.string a0_0) := (blk_cell BK200.out 0).trans rfl; have hcz8_1 : w6.cell? ⟨gb200, 1, none⟩ = some (.int .i64 a0_1) := (blk_cell BK200.out 1).trans rfl; have hfz8_0 := blk_frozen BK200.out 0; have hfz8_1 := blk_frozen BK200.out 1; have hcz9_0 : w6.cell? ⟨gb201, 0, none⟩ = some (.string a1_0) := (blk_cell BK201.out 0).trans rfl; have hcz9_1 : w6.cell? ⟨gb201, 1, none⟩ = some (.int .i64 a1_1) := (blk_cell BK201.out 1).trans rfl; have hfz9_0 := blk_frozen BK201.out 0; have hfz9_1 := blk_frozen BK201.out 1))
      go_ret
      exact ⟨by first | rfl | (simp [errW_none, errW_some] <;> rfl) | (simp [*, errW_none, errW_some] <;> rfl), by repeat (first | (with_reducible first | exact HB.out | apply below_alloc | apply pw_below_drewN | apply below_drew1 | refine below_set ?_ GE200.out | refine below_set ?_ GE201.out) | exact HB.out)⟩
    · rw [if_neg c4] at H
      have c4b0 : (a0_1 == a1_1) = false := beq_eq_false_iff_ne.mpr c4
      have c4b1 : (a0_1 != a1_1) = true := bne_iff_ne.mpr c4
      obtain rfl := Option.some.inj H
      go_enter Tryd.func57, Tryd.ntmps57
      go_wp2_with (first | ((with_reducible refine gate_dst (N := 2) rfl ?_); refine box_event ?hg (N := 2) ?hd (cs := #[.string a0_0, .int .i64 a0_1]) (t := 61) ?hr ?_; (case hd => rfl); (case hg => rfl); (case hr => first | (go_simp; done) | (go_simp; rfl)); intro gb200 hg w10 hbox hb; have n0_ := Aside0.mk (below_step (by repeat (first | (with_reducible first | exact HB.out | apply below_alloc | apply pw_below_drewN | apply below_drew1) | exact HB.out)) hb); have n1_ := Aside0.mk (hbox); have n2_ := Aside0.mk ((by rw [hg]; exact (below_size (by repeat (first | (with_reducible first | exact HB.out | apply below_alloc | apply pw_below_drewN | apply below_drew1) | exact HB.out))) : w.heap.size ≤ gb200)); have n3_ := Aside0.mk ((by rw [hg]; exact (below_size (by repeat (first | (with_reducible first | exact HB.out | apply below_alloc | apply pw_below_drewN | apply below_drew1) | exact HB.out))) : w.heap.size ≤ gb200)); clear HB; have HB := n0_; have BK200 := n1_; have GW200 := n2_; have GE200 := n3_; clear n0_ n1_ n2_ n3_; clear hb hbox hg) | ((with_reducible refine gate_dst (N := 3) rfl ?_); refine box_event ?hg (N := 3) ?hd (cs := #[.string a1_0, .int .i64 a1_1]) (t := 61) ?hr ?_; (case hd => rfl); (case hg => rfl); (case hr => first | (go_simp; done) | (go_simp; rfl)); intro gb201 hg w11 hbox hb; have n0_ := Aside0.mk (blk_below (g := gb200) (o := .cells #[.string a0_0, .int .i64 a0_1] 61 (0, 0)) (by (with_reducible repeat (first | refine blk_drewN ?_ _ | refine blk_drew ?_ | refine blk_alloc ?_ _)); exact BK200.out) hb); have n1_ := Aside0.mk (below_step (by repeat (first | (with_reducible first | exact HB.out | apply below_alloc | apply pw_below_drewN | apply below_drew1 | refine below_set ?_ GE200.out) | exact HB.out)) hb); have n2_ := Aside0.mk (hbox); have n3_ := Aside0.mk ((by rw [hg]; exact (below_size (by repeat (first | (with_reducible first | exact HB.out | apply below_alloc | apply pw_below_drewN | apply below_drew1 | refine below_set ?_ GE200.out) | exact HB.out))) : w.heap.size ≤ gb201)); have n4_ := Aside0.mk ((by rw [hg]; exact (below_size (by repeat (first | (with_reducible first | exact HB.out | apply below_alloc | apply pw_below_drewN | apply below_drew1 | refine below_set ?_ GE200.out) | exact HB.out))) : w.heap.size ≤ gb201)); have n5_ := Aside0.mk ((by rw [hg]; exact Nat.ne_of_lt (blk_lt (g := gb200) (o := .cells #[.string a0_0, .int .i64 a0_1] 61 (0, 0)) (by (with_reducible repeat (first | refine blk_drewN ?_ _ | refine blk_drew ?_ | refine blk_alloc ?_ _)); exact BK200.out)) : gb200 ≠ gb201)); have n6_ := Aside0.mk ((by rw [hg]; exact Nat.ne_of_gt (blk_lt (g := gb200) (o := .cells #[.string a0_0, .int .i64 a0_1] 61 (0, 0)) (by (with_reducible repeat (first | refine blk_drewN ?_ _ | refine blk_drew ?_ | refine blk_alloc ?_ _)); exact BK200.out)) : gb201 ≠ gb200)); clear BK200; clear HB; have BK200 := n0_; have HB := n1_; have BK201 := n2_; have GW201 := n3_; have GE201 := n4_; have NB200_201 := n5_; have NB201_200 := n6_; clear n0_ n1_ n2_ n3_ n4_ n5_ n6_; clear hb hbox hg; have hnb12 := NB200_201.out; have hnc12 := NB201_200.out; have hcz13_0 : w11.cell? ⟨gb200, 0, none⟩ = some (.string a0_0) := (blk_cell BK200.out 0).trans rfl; have hcz13_1 : w11.cell? ⟨gb200, 1, none⟩ = some (.int .i64 a0_1) := (blk_cell BK200.out 1).trans rfl; have hfz13_0 := blk_frozen BK200.out 0; have hfz13_1 := blk_frozen BK200.out 1; have hcz14_0 : w11.cell? ⟨gb201, 0, none⟩ = some (.string a1_0) := (blk_cell BK201.out 0).trans rfl; have hcz14_1 : w11.cell? ⟨gb201, 1, none⟩ = some (.int .i64 a1_1) := (blk_cell BK201.out 1).trans rfl; have hfz14_0 := blk_frozen BK201.out 0; have hfz14_1 := blk_frozen BK201.out 1))
      go_ret
      exact ⟨by first | rfl | (simp [errW_none, errW_some] <;> rfl) | (simp [*, errW_none, errW_some] <;> rfl), by repeat (first | (with_reducible first | exact HB.out | apply below_alloc | apply pw_below_drewN | apply below_drew1 | refine below_set ?_ GE200.out | refine below_set ?_ GE201.out) | exact HB.out)⟩
  · rw [if_neg c3] at H
    have c3b0 : (a0_0.toList == a1_0.toList) = false := beq_eq_false_iff_ne.mpr c3
    have c3b1 : (a0_0.toList != a1_0.toList) = true := bne_iff_ne.mpr c3
    obtain rfl := Option.some.inj H
    go_enter Tryd.func57, Tryd.ntmps57
    go_wp2_with (first | ((with_reducible refine gate_dst (N := 2) rfl ?_); refine box_event ?hg (N := 2) ?hd (cs := #[.string a0_0, .int .i64 a0_1]) (t := 61) ?hr ?_; (case hd => rfl); (case hg => rfl); (case hr => first | (go_simp; done) | (go_simp; rfl)); intro gb200 hg w15 hbox hb; have n0_ := Aside0.mk (below_step (by repeat (first | (with_reducible first | exact HB.out | apply below_alloc | apply pw_below_drewN | apply below_drew1) | exact HB.out)) hb); have n1_ := Aside0.mk (hbox); have n2_ := Aside0.mk ((by rw [hg]; exact (below_size (by repeat (first | (with_reducible first | exact HB.out | apply below_alloc | apply pw_below_drewN | apply below_drew1) | exact HB.out))) : w.heap.size ≤ gb200)); have n3_ := Aside0.mk ((by rw [hg]; exact (below_size (by repeat (first | (with_reducible first | exact HB.out | apply below_alloc | apply pw_below_drewN | apply below_drew1) | exact HB.out))) : w.heap.size ≤ gb200)); clear HB; have HB := n0_; have BK200 := n1_; have GW200 := n2_; have GE200 := n3_; clear n0_ n1_ n2_ n3_; clear hb hbox hg) | ((with_reducible refine gate_dst (N := 3) rfl ?_); refine box_event ?hg (N := 3) ?hd (cs := #[.string a1_0, .int .i64 a1_1]) (t := 61) ?hr ?_; (case hd => rfl); (case hg => rfl); (case hr => first | (go_simp; done) | (go_simp; rfl)); intro gb201 hg w16 hbox hb; have n0_ := Aside0.mk (blk_below (g := gb200) (o := .cells #[.string a0_0, .int .i64 a0_1] 61 (0, 0)) (by (with_reducible repeat (first | refine blk_drewN ?_ _ | refine blk_drew ?_ | refine blk_alloc ?_ _)); exact BK200.out) hb); have n1_ := Aside0.mk (below_step (by repeat (first | (with_reducible first | exact HB.out | apply below_alloc | apply pw_below_drewN | apply below_drew1 | refine below_set ?_ GE200.out) | exact HB.out)) hb); have n2_ := Aside0.mk (hbox); have n3_ := Aside0.mk ((by rw [hg]; exact (below_size (by repeat (first | (with_reducible first | exact HB.out | apply below_alloc | apply pw_below_drewN | apply below_drew1 | refine below_set ?_ GE200.out) | exact HB.out))) : w.heap.size ≤ gb201)); have n4_ := Aside0.mk ((by rw [hg]; exact (below_size (by repeat (first | (with_reducible first | exact HB.out | apply below_alloc | apply pw_below_drewN | apply below_drew1 | refine below_set ?_ GE200.out) | exact HB.out))) : w.heap.size ≤ gb201)); have n5_ := Aside0.mk ((by rw [hg]; exact Nat.ne_of_lt (blk_lt (g := gb200) (o := .cells #[.string a0_0, .int .i64 a0_1] 61 (0, 0)) (by (with_reducible repeat (first | refine blk_drewN ?_ _ | refine blk_drew ?_ | refine blk_alloc ?_ _)); exact BK200.out)) : gb200 ≠ gb201)); have n6_ := Aside0.mk ((by rw [hg]; exact Nat.ne_of_gt (blk_lt (g := gb200) (o := .cells #[.string a0_0, .int .i64 a0_1] 61 (0, 0)) (by (with_reducible repeat (first | refine blk_drewN ?_ _ | refine blk_drew ?_ | refine blk_alloc ?_ _)); exact BK200.out)) : gb201 ≠ gb200)); clear BK200; clear HB; have BK200 := n0_; have HB := n1_; have BK201 := n2_; have GW201 := n3_; have GE201 := n4_; have NB200_201 := n5_; have NB201_200 := n6_; clear n0_ n1_ n2_ n3_ n4_ n5_ n6_; clear hb hbox hg; have hnb17 := NB200_201.out; have hnc17 := NB201_200.out; have hcz18_0 : w16.cell? ⟨gb200, 0, none⟩ = some (.string a0_0) := (blk_cell BK200.out 0).trans rfl; have hcz18_1 : w16.cell? ⟨gb200, 1, none⟩ = some (.int .i64 a0_1) := (blk_cell BK200.out 1).trans rfl; have hfz18_0 := blk_frozen BK200.out 0; have hfz18_1 := blk_frozen BK200.out 1; have hcz19_0 : w16.cell? ⟨gb201, 0, none⟩ = some (.string a1_0) := (blk_cell BK201.out 0).trans rfl; have hcz19_1 : w16.cell? ⟨gb201, 1, none⟩ = some (.int .i64 a1_1) := (blk_cell BK201.out 1).trans rfl; have hfz19_0 := blk_frozen BK201.out 0; have hfz19_1 := blk_frozen BK201.out 1))
    go_ret
    exact ⟨by first | rfl | (simp [errW_none, errW_some] <;> rfl) | (simp [*, errW_none, errW_some] <;> rfl), by repeat (first | (with_reducible first | exact HB.out | apply below_alloc | apply pw_below_drewN | apply below_drew1 | refine below_set ?_ GE200.out | refine below_set ?_ GE201.out) | exact HB.out)⟩

end Go.Proofs.YtabpgjejedjliaaDoor.GLPrintSheet
