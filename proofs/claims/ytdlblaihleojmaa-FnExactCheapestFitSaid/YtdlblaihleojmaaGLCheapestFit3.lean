-- Written by a program of this session (gprint.py), over the kit's print: not trusted: Lean checks it.
import Derived.Test.YtdlblaihleojmaaGLCheapestFit0
import Derived.Test.YtdlblaihleojmaaOwnQ
import Derived.Deep.CutRange
namespace Go.Proofs.Ytdlblaihleojmaa.GLCheapestFit
open Go.RowKit Go.Proofs.YtdlblaihleojmaaW.PrintWords Go.Proofs.YtdlblaihleojmaaW.PrintLast Go.Proofs.YtdlblaihleojmaaW.PrintMore Go.Proofs.YtdlblaihleojmaaW.PrintOwn
attribute [local go_sem] max2_int min2_int max_two min_two max_three min_three max_four min_four   -- for this text's walks alone
set_option linter.unusedVariables false
set_option linter.unusedSimpArgs false

/-! ### spec_l9M_seek: function 82 -/
def spec_l9M_seek.T18 : Bool × List (List Nat × List Nat) := (true, [([], []), ([0], [0]), ([1], [1]), ([2], [2]), ([], []), ([3, 4], [3, 4]), ([5], [5]), ([], []), ([6, 7], [6, 7]), ([8], [8]), ([], []), ([10], [10]), ([11], [11]), ([12], [12]), ([13], [13]), ([], []), ([14, 15], [14, 15]), ([16], [16]), ([9, 17], [9, 17]), ([], []), ([19], [19]), ([20], [20]), ([21], [21]), ([22], [22]), ([], []), ([23, 24], [23, 24]), ([25], [25]), ([18, 26], [18, 26]), ([27, 0, 1, 2, 3, 4, 5, 6, 7, 8, 9, 10, 11, 12, 13, 14, 15, 16, 17, 18, 19, 20, 21, 22, 23, 24, 25, 26, 27], [27])])
def spec_l9M_seek.B18 : List Nat := [0, 1, 3, 7, 0, 31, 63, 0, 255, 511, 0, 1024, 3072, 7168, 15360, 0, 64512, 130048, 262143, 0, 524288, 1572864, 3670016, 7864320, 0, 33030144, 66584576, 134217727, 268435455]
theorem spec_l9M_seek.tab18 : rtab .any (opsOf Try.f82 18) = spec_l9M_seek.T18 := by kernel_rfl
theorem spec_l9M_seek.bits18 : waitsOk spec_l9M_seek.T18.2 spec_l9M_seek.B18 = true := by kernel_rfl
def spec_l9M_seek.T26 : Bool × List (List Nat × List Nat) := (true, [([], []), ([], []), ([0, 1], [0, 1]), ([2], [2]), ([3], [3]), ([4], [4]), ([5], [5]), ([6, 5], [5, 6]), ([7, 5, 5], [5, 7]), ([8], [8]), ([8], [8]), ([9, 10, 8], [8, 9, 10]), ([11, 8], [8, 11]), ([8], [8]), ([8], [8]), ([13, 14, 8], [8, 13, 14]), ([15, 8], [8, 15]), ([12, 16, 8], [8, 12, 16]), ([8, 17, 5], [5, 8, 17]), ([5, 18], [5, 18])])
def spec_l9M_seek.B26 : List Nat := [0, 0, 3, 7, 15, 31, 63, 127, 255, 511, 511, 2047, 4095, 511, 511, 25087, 57855, 131071, 262143, 524287]
theorem spec_l9M_seek.tab26 : rtab .any (opsOf Try.f82 26) = spec_l9M_seek.T26 := by kernel_rfl
theorem spec_l9M_seek.bits26 : waitsOk spec_l9M_seek.T26.2 spec_l9M_seek.B26 = true := by kernel_rfl
def spec_l9M_seek.T34 : Bool × List (List Nat × List Nat) := (true, [([], []), ([0], [0]), ([1], [1]), ([2], [2]), ([3], [3]), ([], []), ([5], [5]), ([6], [6]), ([7], [7]), ([], []), ([8, 9], [8, 9]), ([10], [10]), ([4, 11], [4, 11]), ([12], [12]), ([], []), ([13, 14], [13, 14]), ([4, 11, 0, 1, 2, 3, 4, 5, 6, 7, 8, 9, 10, 11, 12, 13, 14, 15], [4, 11]), ([16, 15, 0, 1, 2, 3, 4, 5, 6, 7, 8, 9, 10, 11, 12, 13, 14, 15], [15, 16])])
def spec_l9M_seek.B34 : List Nat := [0, 1, 3, 7, 15, 0, 32, 96, 224, 0, 992, 2016, 4095, 8191, 0, 32767, 65535, 131071]
theorem spec_l9M_seek.tab34 : rtab .any (opsOf Try.f82 34) = spec_l9M_seek.T34 := by kernel_rfl
theorem spec_l9M_seek.bits34 : waitsOk spec_l9M_seek.T34.2 spec_l9M_seek.B34 = true := by kernel_rfl
def spec_l9M_seek.T44 : Bool × List (List Nat × List Nat) := (true, [([], []), ([0], [0]), ([1], [1]), ([2], [2]), ([], []), ([], []), ([5], [5]), ([6], [6]), ([7], [7]), ([], []), ([], []), ([9, 10], [9, 10]), ([11], [11]), ([8, 12], [8, 12]), ([13], [13]), ([3, 4, 0, 1, 2, 3, 4, 5, 6, 7, 8, 9, 10, 11, 12, 13, 14], [3, 4]), ([15, 14, 0, 1, 2, 3, 4, 5, 6, 7, 8, 9, 10, 11, 12, 13, 14], [14, 15])])
def spec_l9M_seek.B44 : List Nat := [0, 1, 3, 7, 0, 0, 32, 96, 224, 0, 0, 1536, 3584, 8160, 16352, 32767, 65535]
theorem spec_l9M_seek.tab44 : rtab .any (opsOf Try.f82 44) = spec_l9M_seek.T44 := by kernel_rfl
theorem spec_l9M_seek.bits44 : waitsOk spec_l9M_seek.T44.2 spec_l9M_seek.B44 = true := by kernel_rfl
def spec_l9M_seek.f (l1 : List (List Int)) (L B O : List Int) (a3 : Int) : Option (List Int × List Int × List Int) := seekF l1 L B O a3
set_option maxHeartbeats 8000000 in
set_option maxRecDepth 100000 in
theorem spec_l9M_seek.calls (l1 : List (List Int)) (l0_0 l0_1 l2 : List Int) (a3 : Int) (r1 r2 r3 : List Int) (gb gL cL gB cB gO cO : Nat) (A1 : Option Addr) (c1 : Nat) (P : Nat → Prop) (w0 w : World) (hB : Below w0.heap.size w0 w) (ho0_0 : RI w w0.heap.size l1.length gL cL l0_0) (ho0_1 : RI w w0.heap.size l1.length gB cB l0_1) (ho2 : RI w w0.heap.size l1.length gO cO l2) (hbk : w.heap[gb]? = some (.cells #[.slice A1 l1.length c1, .slice (some ⟨gL, 0, none⟩) l1.length cL, .slice (some ⟨gB, 0, none⟩) l1.length cB, .slice (some ⟨gO, 0, none⟩) l1.length cO] 82 (0, 0))) (hnd : (gL ≠ gB ∧ gL ≠ gO ∧ gL ≠ gb) ∧ (gB ≠ gO ∧ gB ≠ gb) ∧ gO ≠ gb) (hP : P gL ∧ P gB ∧ P gO) (hr1 : ∀ W_, Kept w W_ P → Kd.C (Kd.slice 3 (Kd.int .i64)) W_ A1 l1.length l1) (hc1 : l1.length ≤ c1) (h : spec_l9M_seek.f l1 l0_0 l0_1 l2 a3 = some (r1, r2, r3)) :
  Calls Try.prog 82 #[.pointer (some ⟨gb, 0, none⟩), .int .i64 a3] w fun e w' => e = .returned (.tuple #[]) ∧ (RI w' w0.heap.size l1.length gL cL r1 ∧ RI w' w0.heap.size l1.length gB cB r2 ∧ RI w' w0.heap.size l1.length gO cO r3) ∧ w'.heap[gb]? = some (.cells #[.slice A1 l1.length c1, .slice (some ⟨gL, 0, none⟩) l1.length cL, .slice (some ⟨gB, 0, none⟩) l1.length cB, .slice (some ⟨gO, 0, none⟩) l1.length cO] 82 (0, 0)) ∧ Below w0.heap.size w0 w' ∧ Kept w w' P := by
 have hu33 := Try.underlying33
 have hu82 := Try.underlying82
 unfold spec_l9M_seek.f seekF at h
 by_cases hg : GoodP l1 l0_0 l0_1 l2 a3
 case neg => rw [if_neg hg] at h; cases h
 rw [if_pos hg] at h
 obtain ⟨s, hs, h⟩ := Option.bind_eq_some_iff.mp h
 obtain ⟨O1, hO1, h⟩ := Option.bind_eq_some_iff.mp h
 simp only [Option.some.injEq, Prod.mk.injEq] at h
 obtain ⟨rfl, rfl, rfl⟩ := h
 obtain ⟨⟨hn2, hL, hBl, hO⟩, ⟨hl0, hl1⟩, hrow, hown⟩ := hg
 have hn1 : 1 ≤ l1.length := by omega
 have hap : (w0.heap.size ≤ gL ∧ w0.heap.size ≤ gB ∧ w0.heap.size ≤ gO) ∧ gL < w.heap.size ∧ gB < w.heap.size ∧ gO < w.heap.size ∧ gb < w.heap.size := ⟨⟨ho0_0.low hn1, ho0_1.low hn1, ho2.low hn1⟩, ho0_0.own, ho0_1.own, ho2.own, blk_lt hbk⟩
 have k0 : w.cell? ⟨gb, 0, none⟩ = some (.slice A1 l1.length c1) := (blk_cell hbk 0).trans rfl
 have HL := Aside0.mk (show (1 ≤ l1.length ∧ l1.length ≤ 1000) ∧ 0 ≤ a3 ∧ a3 < (l1.length : Int) from ⟨⟨hn1, hn2⟩, hl0, hl1⟩)
 have HROW := Aside0.mk hrow
 have HOWN := Aside0.mk hown
 have HOUT := Aside0.mk hs
 have HBACK := Aside0.mk hO1
 have HR1 := Aside0.mk hr1
 have HC1 := Aside0.mk hc1
 have HB := Aside0.mk hB
 have HAP := Aside0.mk hap
 have HND := Aside0.mk hnd
 have HP := Aside0.mk hP
 have HX := Aside0.mk (show RI w w0.heap.size l1.length gL cL l0_0 ∧ RI w w0.heap.size l1.length gB cB l0_1 ∧ RI w w0.heap.size l1.length gO cO l2 ∧ w.heap[gb]? = some (.cells #[.slice A1 l1.length c1, .slice (some ⟨gL, 0, none⟩) l1.length cL, .slice (some ⟨gB, 0, none⟩) l1.length cB, .slice (some ⟨gO, 0, none⟩) l1.length cO] 82 (0, 0)) from ⟨ho0_0, ho0_1, ho2, hbk⟩)
 have HLN := Aside0.mk (show l0_0.length = l1.length ∧ l0_1.length = l1.length ∧ l2.length = l1.length from ⟨hL, hBl, hO⟩)
 have d0 : (0 ≤ (l1.length : Int)) = True := eq_true (by omega)
 clear ho0_0 ho0_1 ho2 hbk hnd hP hr1 hc1 hB hs hO1 hrow hown hn2 hL hBl hO hl0 hl1 hn1 hap
 go_enter Try.func82, Try.ntmps82
 go_wp2_with (first | ((with_reducible refine gate_dst (N := 24) rfl ?_); refine Kd.R_make (Kd.int .i64) (w0 := w) w.heap.size 3 rfl (N := 24) rfl 27 _ _ rfl (l1.length : Int) rfl rfl Try.underlying27 (.int .i64 0) 8 info3 rfl (by decide) (by omega) 0 (ok := fun _ => True) (okp := fun _ => True) rfl (fun _ hk => hk) trivial (by omega) (by have := HL.out; simp; omega) (Below.refl _ _) (Nat.le_refl _) ?_; intro v_ w1 ho hb hg_ hnew_; clear hg_ hnew_; rw [Int.toNat_natCast] at ho; (obtain ⟨gl, cl, e_, El_, ll_, _⟩ := Kd.R_form ho (by rw [List.length_replicate]; have := HL.out; omega)); rw [List.length_replicate] at e_; subst e_; have HM1 := Aside0.mk (And.intro El_ (And.intro ll_ ho)); have HB1 := Aside0.mk hb; clear ho hb El_ ll_) | ((with_reducible refine gate_dst (N := 26) rfl ?_); refine Kd.R_make (Kd.int .i64) (w0 := w1) w1.heap.size 3 rfl (N := 26) rfl 27 _ _ rfl (l1.length : Int) rfl rfl Try.underlying27 (.int .i64 0) 8 info3 rfl (by decide) (by omega) 0 (ok := fun _ => True) (okp := fun _ => True) rfl (fun _ hk => hk) trivial (by omega) (by have := HL.out; simp; omega) (Below.refl _ _) (Nat.le_refl _) ?_; intro v_ w2 ho hb hg_ hnew_; clear hg_ hnew_; rw [Int.toNat_natCast] at ho; (obtain ⟨gf, cf, e_, El_, ll_, _⟩ := Kd.R_form ho (by rw [List.length_replicate]; have := HL.out; omega)); rw [List.length_replicate] at e_; subst e_; have HM2 := Aside0.mk (And.intro El_ (And.intro ll_ ho)); have HB2 := Aside0.mk hb; clear ho hb El_ ll_) | ((with_reducible refine gate_dst (N := 28) rfl ?_); refine Kd.R_make Kd.bool (w0 := w2) w2.heap.size 4 rfl (N := 28) rfl 65 _ _ rfl (l1.length : Int) rfl rfl Try.underlying65 (.bool false) 1 info4 rfl (by decide) (by omega) false (ok := fun _ => True) (okp := fun _ => True) rfl (fun _ hk => hk) trivial (by omega) (by have := HL.out; simp; omega) (Below.refl _ _) (Nat.le_refl _) ?_; intro v_ w3 ho hb hg_ hnew_; clear hg_ hnew_; rw [Int.toNat_natCast] at ho; (obtain ⟨gg, cg, e_, El_, ll_, _⟩ := Kd.R_form ho (by rw [List.length_replicate]; have := HL.out; omega)); rw [List.length_replicate] at e_; subst e_; have HM3 := Aside0.mk (And.intro El_ (And.intro ll_ ho)); have HB3 := Aside0.mk hb; clear ho hb El_ ll_))
 have hap := HAP.out
 have hnd := HND.out
 have hp := HP.out
 have h1_ := HM1.out
 have h2_ := HM2.out
 have h3_ := HM3.out
 have hb_ := HB.out.size
 have HBW := Aside0.mk (show Below w.heap.size w w3 from below_step (below_step HB1.out HB2.out) HB3.out)
 have HA := Aside0.mk (show Ap w0 w P ⟨gL, cL, gB, cB, gO, cO, gl, cl, gf, cf, gg, cg, gb⟩ from ⟨nd7i ⟨⟨hnd.1.1, hnd.1.2.1, Nat.ne_of_lt (show gL < gl by omega), Nat.ne_of_lt (show gL < gf by omega), Nat.ne_of_lt (show gL < gg by omega), hnd.1.2.2⟩, ⟨hnd.2.1.1, Nat.ne_of_lt (show gB < gl by omega), Nat.ne_of_lt (show gB < gf by omega), Nat.ne_of_lt (show gB < gg by omega), hnd.2.1.2⟩, ⟨Nat.ne_of_lt (show gO < gl by omega), Nat.ne_of_lt (show gO < gf by omega), Nat.ne_of_lt (show gO < gg by omega), hnd.2.2⟩, ⟨Nat.ne_of_lt (show gl < gf by omega), Nat.ne_of_lt (show gl < gg by omega), Nat.ne_of_gt (show gb < gl by omega)⟩, ⟨Nat.ne_of_lt (show gf < gg by omega), Nat.ne_of_gt (show gb < gf by omega)⟩, Nat.ne_of_gt (show gb < gg by omega)⟩, ⟨hap.1.1, .inl hp.1⟩, ⟨hap.1.2.1, .inl hp.2.1⟩, ⟨hap.1.2.2, .inl hp.2.2⟩, ⟨show w0.heap.size ≤ gl by omega, .inr (show w.heap.size ≤ gl by omega)⟩, ⟨show w0.heap.size ≤ gf by omega, .inr (show w.heap.size ≤ gf by omega)⟩, ⟨show w0.heap.size ≤ gg by omega, .inr (show w.heap.size ≤ gg by omega)⟩⟩)
 have HS := Aside0.mk (show St w0 w P l1.length ⟨gL, cL, gB, cB, gO, cO, gl, cl, gf, cf, gg, cg, gb⟩ #[.slice A1 l1.length c1, .slice (some ⟨gL, 0, none⟩) l1.length cL, .slice (some ⟨gB, 0, none⟩) l1.length cB, .slice (some ⟨gO, 0, none⟩) l1.length cO] 82 l0_0 l0_1 l2 (List.replicate l1.length 0) (List.replicate l1.length 0) (List.replicate l1.length false) w3 from ⟨Kd.R_below HX.out.1 HBW.out, Kd.R_below HX.out.2.1 HBW.out, Kd.R_below HX.out.2.2.1 HBW.out, Kd.R_below (Kd.R_below (Kd.R_lower (Kd.R_mono (ok' := fun k => k = gl) (Kd.R_tight rfl h1_.2.2) (fun k hk => by simpa [Value.ownBlock] using hk)) (by omega)) HB2.out) HB3.out, Kd.R_below (Kd.R_lower (Kd.R_mono (ok' := fun k => k = gf) (Kd.R_tight rfl h2_.2.2) (fun k hk => by simpa [Value.ownBlock] using hk)) (by omega)) HB3.out, Kd.R_lower (Kd.R_mono (ok' := fun k => k = gg) (Kd.R_tight rfl h3_.2.2) (fun k hk => by simpa [Value.ownBlock] using hk)) (by omega), blk_below HX.out.2.2.2 HBW.out, below_step HB.out HBW.out, Kept.below (Kept.refl w P) HBW.out⟩)
 clear hap hnd hp h1_ h2_ h3_ hb_ HM1 HM2 HM3 HB1 HB2 HB3 HBW HX HB HAP HND HP k0 d0
 go_loopg [31] l1.length (fun gk v31 w' => ∃ (x : Int), v31 = .int .i64 x ∧ Aside0 (0 ≤ x ∧ x + gk = (l1.length : Int)) ∧ Aside0 (St w0 w P l1.length ⟨gL, cL, gB, cB, gO, cO, gl, cl, gf, cf, gg, cg, gb⟩ #[.slice A1 l1.length c1, .slice (some ⟨gL, 0, none⟩) l1.length cL, .slice (some ⟨gB, 0, none⟩) l1.length cB, .slice (some ⟨gO, 0, none⟩) l1.length cO] 82 l0_0 l0_1 l2 (fillF l1.length x 1099511627776) (fillF l1.length x (-1)) (List.replicate l1.length false) w'))
 case atStart => exact ⟨0, rfl, ⟨⟨by omega, by omega⟩⟩, by rw [fill_0, fill_0]; exact HS⟩
 case round =>
  clear HS
  obtain ⟨x, rfl, HX, HS⟩ := hrel
  cases gk with
  | succ k2 =>
   have dx : decide (x < (l1.length : Int)) = true := decide_eq_true (by have := HX.out; omega)
   have HX0 := Aside0.mk (show 0 ≤ x ∧ x < (l1.length : Int) by have := HX.out; omega)
   have px : (0 ≤ x) = True := eq_true HX0.out.1
   have qx : (x < (l1.length : Int)) = True := eq_true HX0.out.2
   have hx1 : wrap64 (x + 1) = x + 1 := by have := HX.out; have := HL.out; unfold wrap64; omega
   have kl : wr.cell? ⟨gl, x.toNat, none⟩ = some (.int .i64 (rd (fillF l1.length x 1099511627776) x)) := (HS.out.rl.cell x HX0.out.1 HX0.out.2).1
   have fl : wr.frozen? ⟨gl, x.toNat, none⟩ = false := (HS.out.rl.cell x HX0.out.1 HX0.out.2).2
   go_wp2_with (first | ((with_reducible refine gate_store (t := 3) (p := 36) rfl ?_); refine store_event (t := 3) (p := 36) (v := ?vo_1) (w1 := (wr.setCell ⟨gl, x.toNat, none⟩ (.int .i64 1099511627776))) ?hg ?ho ?hn ?hr ?_; (case ho => rfl); (case hg => rfl); (case hn => rfl); (case hr => first | (go_simp; done) | (go_simp; rfl)); intro w5 hw_; have HS5 := Aside0.mk (show St w0 w P l1.length ⟨gL, cL, gB, cB, gO, cO, gl, cl, gf, cf, gg, cg, gb⟩ #[.slice A1 l1.length c1, .slice (some ⟨gL, 0, none⟩) l1.length cL, .slice (some ⟨gB, 0, none⟩) l1.length cB, .slice (some ⟨gO, 0, none⟩) l1.length cO] 82 l0_0 l0_1 l2 (fillF l1.length (x + 1) 1099511627776) (fillF l1.length x (-1)) (List.replicate l1.length false) w5 by rw [hw_, ← fill_set l1.length 1099511627776 HX0.out.1 HX0.out.2]; exact HS.out.sl HA.out x 1099511627776); have kf : w5.cell? ⟨gf, x.toNat, none⟩ = some (.int .i64 (rd (fillF l1.length x (-1)) x)) := (HS5.out.rf.cell x HX0.out.1 HX0.out.2).1; have ff : w5.frozen? ⟨gf, x.toNat, none⟩ = false := (HS5.out.rf.cell x HX0.out.1 HX0.out.2).2; clear HS kl fl; clear hw_) | ((with_reducible refine gate_store (t := 3) (p := 39) rfl ?_); refine store_event (t := 3) (p := 39) (v := ?vo_2) (w1 := (w5.setCell ⟨gf, x.toNat, none⟩ (.int .i64 (-1)))) ?hg ?ho ?hn ?hr ?_; (case ho => rfl); (case hg => rfl); (case hn => rfl); (case hr => first | (go_simp; done) | (go_simp; rfl)); intro w6 hw_; have HS := Aside0.mk (show St w0 w P l1.length ⟨gL, cL, gB, cB, gO, cO, gl, cl, gf, cf, gg, cg, gb⟩ #[.slice A1 l1.length c1, .slice (some ⟨gL, 0, none⟩) l1.length cL, .slice (some ⟨gB, 0, none⟩) l1.length cB, .slice (some ⟨gO, 0, none⟩) l1.length cO] 82 l0_0 l0_1 l2 (fillF l1.length (x + 1) 1099511627776) (fillF l1.length (x + 1) (-1)) (List.replicate l1.length false) w6 by rw [hw_, ← fill_set l1.length (-1) HX0.out.1 HX0.out.2]; exact HS5.out.sf HA.out x (-1)); clear HS5 kf ff; clear hw_))
   go_roundg k2
   case measure => omega
   case rel => exact ⟨x + 1, by first | rfl | rw [hx1], ⟨by have := HX.out; omega⟩, HS⟩
  | zero =>
   have dx : decide (x < (l1.length : Int)) = false := decide_eq_false (by have := HX.out; omega)
   rw [fill_n l1.length 1099511627776 (by have := HX.out; omega), fill_n l1.length (-1) (by have := HX.out; omega)] at HS
   clear HX
   go_wp2
   go_loopg [9] (l1.length + 2) (fun gk v9 w' => ∃ (ls fr : List Int) (gn : List Bool) (last : Int) (L B : List Int), v9 = .int .i64 last ∧ Aside0 (last < (l1.length : Int) ∧ (∀ x ∈ fr, x < (l1.length : Int)) ∧ ∀ x, 0 ≤ x → x < (l1.length : Int) → rdOf false gn x = true → x = last ∨ 0 ≤ rd l2 x) ∧ Aside0 (outS l1 l2 l1.length a3 gk ls fr gn last L B = some s) ∧ Aside0 (St w0 w P l1.length ⟨gL, cL, gB, cB, gO, cO, gl, cl, gf, cf, gg, cg, gb⟩ #[.slice A1 l1.length c1, .slice (some ⟨gL, 0, none⟩) l1.length cL, .slice (some ⟨gB, 0, none⟩) l1.length cB, .slice (some ⟨gO, 0, none⟩) l1.length cO] 82 L B l2 ls fr gn w'))
   case atStart => exact ⟨_, _, _, -1, l0_0, l0_1, rfl, ⟨by have := HL.out; omega, fun x hx => by rw [(List.mem_replicate.1 hx).2]; have := HL.out; omega, fun x _ _ h => by rw [rep_false] at h; cases h⟩, HOUT, HS⟩
   case round =>
    clear HOUT HS dx
    obtain ⟨ls, fr, gn, last, L, B, rfl, HF, HO, HS⟩ := hrel
    cases gk with
    | zero => exact absurd HO.out (by simp [outS])
    | succ k1 =>
     obtain ⟨a, ha⟩ : ∃ a_, atV l2 a3 last = a_ := ⟨_, rfl⟩
     obtain ⟨S, hS⟩ : ∃ S_, scan1F l1 L B gn last a l1.length 0 (ls, fr) = S_ := ⟨_, rfl⟩
     obtain ⟨bb, hb⟩ : ∃ b_, bestF S.1 gn l1.length 0 (-1) = b_ := ⟨_, rfl⟩
     obtain ⟨by_, hy⟩ : ∃ y_, rd S.1 bb = y_ := ⟨_, rfl⟩
     obtain ⟨A, hA⟩ : ∃ A_, adjF by_ gn l2 l1.length 0 (L.set a3.toNat (wrap64 ((rd L a3) + by_)), B, S.1) = A_ := ⟨_, rfl⟩
     have h := HO.out
     rw [outS_eq l1 l2 l1.length a3 k1 ls fr gn last L B ha hS hb hy hA] at h
     have HAT := Aside0.mk (show a < (l1.length : Int) by rw [← ha]; unfold atV; split; (· exact rd_in HOWN.out (by assumption) (by have := HLN.out; have := HF.out; omega)); (· exact HL.out.2.2))
     have HAV := Aside0.mk ha
     have HSF := Aside0.mk hS
     have HBF := Aside0.mk hb
     have HYF := Aside0.mk hy
     have HAF := Aside0.mk hA
     have HH := Aside0.mk h
     clear ha hS hb hy hA h HO
     go_upto_if 43 with fail
     go_cut [10] from 42 to 50 (fun v10 wx => v10 = .int .i64 a ∧ wx = wr)
     case first =>
      by_cases hl : 0 ≤ last
      · have dl : decide (0 ≤ last) = true := decide_eq_true hl
        have pl : (0 ≤ last) = True := eq_true hl
        have ql : (last < (l1.length : Int)) = True := eq_true HF.out.1
        have ea : rd l2 last = a := by have h_ := HAV.out; unfold atV at h_; rw [if_pos hl] at h_; exact h_
        have k3 : wr.cell? ⟨gb, 3, none⟩ = some (.slice (some ⟨gO, 0, none⟩) l1.length cO) := (blk_cell HS.out.bk 3).trans rfl
        have kO : wr.cell? ⟨gO, last.toNat, none⟩ = some (.int .i64 a) := by rw [← ea]; exact (HS.out.rO.cell last hl HF.out.1).1
        clear hl
        simp only [dl]
        go_wp2
        go_meet
        case rel => exact ⟨rfl, rfl⟩
      · have dl : decide (0 ≤ last) = false := decide_eq_false hl
        have ea : a3 = a := by have h_ := HAV.out; unfold atV at h_; rw [if_neg hl] at h_; exact h_
        clear hl
        simp only [dl]
        go_wp2
        go_meet
        case rel => exact ⟨by rw [ea], rfl⟩
     case rest =>
      obtain ⟨rfl, rfl⟩ := hcut
      by_cases ca : a < 0
      · have da : decide (a < 0) = true := decide_eq_true ca
        have h_ := HH.out
        rw [if_pos ca] at h_
        have e : s = (L, B, fr, last) := (Option.some.inj h_).symm
        subst e
        clear h_ HH ca HSF HBF HYF HAF HAV
        have HFR := Aside0.mk HF.out.2.1
        have HLT := Aside0.mk HF.out.1
        have HBK := Aside0.mk (show backF fr a3 (l1.length + 1) last l2 = some O1 from HBACK.out)
        clear HF
        go_wp2
        go_loopg [17] (l1.length + 1) (fun gk v17 w' => ∃ (x : Int) (O2 : List Int), v17 = .int .i64 x ∧ Aside0 (x < (l1.length : Int)) ∧ Aside0 (backF fr a3 gk x O2 = some O1) ∧ Aside0 (St w0 w P l1.length ⟨gL, cL, gB, cB, gO, cO, gl, cl, gf, cf, gg, cg, gb⟩ #[.slice A1 l1.length c1, .slice (some ⟨gL, 0, none⟩) l1.length cL, .slice (some ⟨gB, 0, none⟩) l1.length cB, .slice (some ⟨gO, 0, none⟩) l1.length cO] 82 L B O2 ls fr gn w'))
        case atStart => exact ⟨last, l2, rfl, HLT, HBK, HS⟩
        case round =>
         clear HS da HBK
         obtain ⟨x, O2, rfl, HX, HBK, HS⟩ := hrel
         cases gk with
         | zero => exact absurd HBK.out (by simp [backF])
         | succ k4 =>
          have h_ := HBK.out
          rw [backF] at h_
          by_cases hx : x < 0
          · rw [if_pos hx] at h_
            have e : O2 = O1 := Option.some.inj h_
            subst e
            have dx : decide (0 ≤ x) = false := decide_eq_false (by omega)
            clear hx h_
            go_wp2
            first | go_end0 | ((try simp only [Exit.inBlock, Exit.then]); refine bodyPost_ret (results_none rfl _ _ _) rfl ?_)
            exact ⟨rfl, ⟨HS.out.rL, HS.out.rB, HS.out.rO⟩, HS.out.bk, HS.out.bl, HS.out.kp⟩
          · rw [if_neg hx] at h_
            have dx : decide (0 ≤ x) = true := decide_eq_true (by omega)
            have HX0 := Aside0.mk (show 0 ≤ x ∧ x < (l1.length : Int) from ⟨by omega, HX.out⟩)
            have px : (0 ≤ x) = True := eq_true HX0.out.1
            have qx : (x < (l1.length : Int)) = True := eq_true HX0.out.2
            obtain ⟨f, hf⟩ : ∃ f_, rd fr x = f_ := ⟨_, rfl⟩
            have HFN := Aside0.mk (show f < (l1.length : Int) from hf ▸ rd_in HFR.out HX0.out.1 (by rw [HS.out.lens.2.2.2.2.1]; exact HX0.out.2))
            have kf : wr.cell? ⟨gf, x.toNat, none⟩ = some (.int .i64 f) := by rw [← hf]; exact (HS.out.rf.cell x HX0.out.1 HX0.out.2).1
            rw [hf] at h_
            have HFE := Aside0.mk hf
            clear hf hx
            by_cases hf0 : 0 ≤ f
            · rw [if_pos hf0] at h_
              have df : decide (f < 0) = false := decide_eq_false (by omega)
              have pf : (0 ≤ f) = True := eq_true hf0
              have qf : (f < (l1.length : Int)) = True := eq_true HFN.out
              have HF0 := Aside0.mk hf0
              have HN := Aside0.mk h_
              clear h_ hf0
              go_wp2
              replace HS := Aside0.mk HS.out.drew
              have k3 : wr.drew.cell? ⟨gb, 3, none⟩ = some (.slice (some ⟨gO, 0, none⟩) l1.length cO) := (blk_cell HS.out.bk 3).trans rfl
              have kf2 : wr.drew.cell? ⟨gf, x.toNat, none⟩ = some (.int .i64 f) := by rw [← HFE.out]; exact (HS.out.rf.cell x HX0.out.1 HX0.out.2).1
              have kOf : wr.drew.cell? ⟨gO, f.toNat, none⟩ = some (.int .i64 (rd O2 f)) := (HS.out.rO.cell f HF0.out HFN.out).1
              have kO : wr.drew.cell? ⟨gO, x.toNat, none⟩ = some (.int .i64 (rd O2 x)) := (HS.out.rO.cell x HX0.out.1 HX0.out.2).1
              have fO : wr.drew.frozen? ⟨gO, x.toNat, none⟩ = false := (HS.out.rO.cell x HX0.out.1 HX0.out.2).2
              clear kf
              refine start_ (n := 17) (S := fun w' => w'.cell? ⟨gb, 3, none⟩ = some (.slice (some ⟨gO, 0, none⟩) l1.length cO) ∧ w'.cell? ⟨gf, x.toNat, none⟩ = some (.int .i64 f) ∧ w'.cell? ⟨gO, f.toNat, none⟩ = some (.int .i64 (rd O2 f)) ∧ w'.cell? ⟨gO, x.toNat, none⟩ = some (.int .i64 (rd O2 x)) ∧ w'.frozen? ⟨gO, x.toNat, none⟩ = false) (ds := [16]) #[false, false, false, false, false, false, false, false, false, false, false, false, false, false, false, false, false] (by kernel_rfl) rfl rfl ⟨k3, kf2, kOf, kO, fO⟩ (fun hHeld => ?_); refine with_tabW spec_l9M_seek.tab44 spec_l9M_seek.bits44 (fun HT_ HW_ => ?_)
              generalize wr.drew = w5 at HS k3 kf2 kOf kO fO hHeld ⊢
              refine pure_ (i := 0) (N := some 215) (v := ?_) (a' := ?_) #[true, false, false, false, false, false, false, false, false, false, false, false, false, false, false, false, false] rfl rfl (any_of HT_.out (by kernel_rfl)) (fun _ _ _ h => h) (Or.inl ⟨by rfl, ?_⟩) ?_ ?_
              rotate_left
              · intro w'
                go_simp
                with_reducible rfl
              rotate_left
              · simp only [Act.put, List.setIfInBounds_toArray, List.set_cons_zero, List.set_cons_succ, i64_w, i32_w]
                rfl
              refine pure_ (i := 1) (N := some 216) (v := ?_) (a' := ?_) #[true, true, false, false, false, false, false, false, false, false, false, false, false, false, false, false, false] rfl rfl (any_of HT_.out (by kernel_rfl)) (fun _ _ _ h => h) (Or.inl ⟨by rfl, ?_⟩) ?_ ?_
              rotate_left
              · intro w'
                go_simp
                with_reducible rfl
              rotate_left
              · simp only [Act.put, List.setIfInBounds_toArray, List.set_cons_zero, List.set_cons_succ, i64_w, i32_w]
                rfl
              refine pure_ (i := 2) (N := some 217) (v := ?_) (a' := ?_) #[true, true, true, false, false, false, false, false, false, false, false, false, false, false, false, false, false] rfl rfl (any_of HT_.out (by kernel_rfl)) (fun _ _ _ h => h) (Or.inl ⟨by rfl, ?_⟩) ?_ ?_
              rotate_left
              · intro w'
                go_simp
                with_reducible rfl
              rotate_left
              · simp only [Act.put, List.setIfInBounds_toArray, List.set_cons_zero, List.set_cons_succ, i64_w, i32_w]
                rfl
              refine pure_ (i := 4) (N := some 219) (v := ?_) (a' := ?_) #[true, true, true, false, true, false, false, false, false, false, false, false, false, false, false, false, false] rfl rfl (any_of HT_.out (by kernel_rfl)) (fun _ _ _ h => h) (Or.inl ⟨by rfl, ?_⟩) ?_ ?_
              rotate_left
              · intro w'
                go_simp
                with_reducible rfl
              rotate_left
              · simp only [Act.put, List.setIfInBounds_toArray, List.set_cons_zero, List.set_cons_succ, i64_w, i32_w]
                rfl
              refine pure_ (i := 5) (N := some 220) (v := ?_) (a' := ?_) #[true, true, true, false, true, true, false, false, false, false, false, false, false, false, false, false, false] rfl rfl (any_of HT_.out (by kernel_rfl)) (fun _ _ _ h => h) (Or.inl ⟨by rfl, ?_⟩) ?_ ?_
              rotate_left
              · intro w'
                go_simp
                with_reducible rfl
              rotate_left
              · simp only [Act.put, List.setIfInBounds_toArray, List.set_cons_zero, List.set_cons_succ, i64_w, i32_w]
                rfl
              refine pure_ (i := 6) (N := some 221) (v := ?_) (a' := ?_) #[true, true, true, false, true, true, true, false, false, false, false, false, false, false, false, false, false] rfl rfl (any_of HT_.out (by kernel_rfl)) (fun _ _ _ h => h) (Or.inl ⟨by rfl, ?_⟩) ?_ ?_
              rotate_left
              · intro w'
                go_simp
                with_reducible rfl
              rotate_left
              · simp only [Act.put, List.setIfInBounds_toArray, List.set_cons_zero, List.set_cons_succ, i64_w, i32_w]
                rfl
              refine pure_ (i := 7) (N := some 222) (v := ?_) (a' := ?_) #[true, true, true, false, true, true, true, true, false, false, false, false, false, false, false, false, false] rfl rfl (any_of HT_.out (by kernel_rfl)) (fun _ _ _ h => h) (Or.inl ⟨by rfl, ?_⟩) ?_ ?_
              rotate_left
              · intro w'
                go_simp
                with_reducible rfl
              rotate_left
              · simp only [Act.put, List.setIfInBounds_toArray, List.set_cons_zero, List.set_cons_succ, i64_w, i32_w]
                rfl
              refine pure_ (i := 9) (N := some 224) (v := ?_) (a' := ?_) #[true, true, true, false, true, true, true, true, false, true, false, false, false, false, false, false, false] rfl rfl (any_of HT_.out (by kernel_rfl)) (fun _ _ _ h => h) (Or.inl ⟨by rfl, ?_⟩) ?_ ?_
              rotate_left
              · intro w'
                go_simp
                with_reducible rfl
              rotate_left
              · simp only [Act.put, List.setIfInBounds_toArray, List.set_cons_zero, List.set_cons_succ, i64_w, i32_w]
                rfl
              refine pure_ (i := 10) (N := some 225) (v := ?_) (a' := ?_) #[true, true, true, false, true, true, true, true, false, true, true, false, false, false, false, false, false] rfl rfl (any_of HT_.out (by kernel_rfl)) (fun _ _ _ h => h) (Or.inl ⟨by rfl, ?_⟩) ?_ ?_
              rotate_left
              · intro w'
                go_simp
                with_reducible rfl
              rotate_left
              · simp only [Act.put, List.setIfInBounds_toArray, List.set_cons_zero, List.set_cons_succ, i64_w, i32_w]
                rfl
              refine pure_ (i := 11) (N := some 226) (v := ?_) (a' := ?_) #[true, true, true, false, true, true, true, true, false, true, true, true, false, false, false, false, false] rfl rfl (any_of HT_.out (by kernel_rfl)) (fun _ _ _ h => h) (Or.inl ⟨by rfl, ?_⟩) ?_ ?_
              rotate_left
              · intro w'
                go_simp
                with_reducible rfl
              rotate_left
              · simp only [Act.put, List.setIfInBounds_toArray, List.set_cons_zero, List.set_cons_succ, i64_w, i32_w]
                rfl
              refine take_ (i := 3) (N := some 218) (v := ?_) (a' := ?_) #[true, true, true, true, true, true, true, true, false, true, true, true, false, false, false, false, false] rfl rfl (take_ofW HT_.out HW_.out (by kernel_rfl)) (fun _ _ _ h => h) (Or.inl ⟨by rfl, ?_⟩) hHeld ?_ ?_
              rotate_left
              · rintro w' ⟨s0, s1, s2, s3, s4⟩
                go_simp
                with_reducible rfl
              rotate_left
              · simp only [Act.put, List.setIfInBounds_toArray, List.set_cons_zero, List.set_cons_succ, i64_w, i32_w]
                rfl
              refine take_ (i := 8) (N := some 223) (v := ?_) (a' := ?_) #[true, true, true, true, true, true, true, true, true, true, true, true, false, false, false, false, false] rfl rfl (take_ofW HT_.out HW_.out (by kernel_rfl)) (fun _ _ _ h => h) (Or.inl ⟨by rfl, ?_⟩) hHeld ?_ ?_
              rotate_left
              · rintro w' ⟨s0, s1, s2, s3, s4⟩
                go_simp
                with_reducible rfl
              rotate_left
              · simp only [Act.put, List.setIfInBounds_toArray, List.set_cons_zero, List.set_cons_succ, i64_w, i32_w]
                rfl
              refine take_ (i := 12) (N := some 227) (v := ?_) (a' := ?_) #[true, true, true, true, true, true, true, true, true, true, true, true, true, false, false, false, false] rfl rfl (take_ofW HT_.out HW_.out (by kernel_rfl)) (fun _ _ _ h => h) (Or.inl ⟨by rfl, ?_⟩) hHeld ?_ ?_
              rotate_left
              · rintro w' ⟨s0, s1, s2, s3, s4⟩
                go_simp
                with_reducible rfl
              rotate_left
              · simp only [Act.put, List.setIfInBounds_toArray, List.set_cons_zero, List.set_cons_succ, i64_w, i32_w]
                rfl
              refine pure_ (i := 13) (N := some 228) (v := ?_) (a' := ?_) #[true, true, true, true, true, true, true, true, true, true, true, true, true, true, false, false, false] rfl rfl (any_of HT_.out (by kernel_rfl)) (fun _ _ _ h => h) (Or.inl ⟨by rfl, ?_⟩) ?_ ?_
              rotate_left
              · intro w'
                go_simp
                with_reducible rfl
              rotate_left
              · simp only [Act.put, List.setIfInBounds_toArray, List.set_cons_zero, List.set_cons_succ, i64_w, i32_w]
                rfl
              refine take_ (i := 14) (N := some 229) (v := ?_) (a' := ?_) #[true, true, true, true, true, true, true, true, true, true, true, true, true, true, true, false, false] rfl rfl (take_ofW HT_.out HW_.out (by kernel_rfl)) (fun _ _ _ h => h) (Or.inl ⟨by rfl, ?_⟩) hHeld ?_ ?_
              rotate_left
              · rintro w' ⟨s0, s1, s2, s3, s4⟩
                go_simp
                with_reducible rfl
              rotate_left
              · simp only [Act.put, List.setIfInBounds_toArray, List.set_cons_zero, List.set_cons_succ, i64_w, i32_w]
                rfl
              refine pure_ (i := 15) (N := some 230) (v := ?_) (a' := ?_) #[true, true, true, true, true, true, true, true, true, true, true, true, true, true, true, true, false] rfl rfl (any_of HT_.out (by kernel_rfl)) (fun _ _ _ h => h) (Or.inl ⟨by rfl, ?_⟩) ?_ ?_
              rotate_left
              · intro w'
                go_simp
                with_reducible rfl
              rotate_left
              · simp only [Act.put, List.setIfInBounds_toArray, List.set_cons_zero, List.set_cons_succ, i64_w, i32_w]
                rfl
              refine last_ (i := 16) (N := none) #[true, true, true, true, true, true, true, true, true, true, true, true, true, true, true, true, true] rfl rfl (by kernel_rfl) (by decide) (fun K hK => ?_)
              refine skip_ (w1 := ?_) (by rfl) rfl ?_ ?_
              rotate_left
              · go_simp
                rfl
              refine hK.out _ _ ?_
              clear hK K
              refine done_ (done_of HT_.out (by kernel_rfl)) ?_
              have HS2 := Aside0.mk (HS.out.sO HA.out x (rd O2 f))
              clear HS k3 kf2 kOf kO fO hHeld
              generalize hw_ : w5.setCell ⟨gO, x.toNat, none⟩ (.int .i64 (rd O2 f)) = w6 at HS2 ⊢
              have HS := Aside0.mk (show St w0 w P l1.length ⟨gL, cL, gB, cB, gO, cO, gl, cl, gf, cf, gg, cg, gb⟩ #[.slice A1 l1.length c1, .slice (some ⟨gL, 0, none⟩) l1.length cL, .slice (some ⟨gB, 0, none⟩) l1.length cB, .slice (some ⟨gO, 0, none⟩) l1.length cO] 82 L B (O2.set x.toNat (rd O2 f)) ls fr gn w6 from HS2.out)
              clear HS2 hw_
              have kf6 : w6.cell? ⟨gf, x.toNat, none⟩ = some (.int .i64 f) := by rw [← HFE.out]; exact (HS.out.rf.cell x HX0.out.1 HX0.out.2).1
              go_wp2
              go_roundg k4
              case measure => omega
              case rel => exact ⟨f, (O2.set x.toNat (rd O2 f)), rfl, HFN, HN, HS⟩
            · rw [if_neg hf0] at h_
              have df : decide (f < 0) = true := decide_eq_true (by omega)
              have HN := Aside0.mk h_
              clear h_ hf0
              have k3 : wr.cell? ⟨gb, 3, none⟩ = some (.slice (some ⟨gO, 0, none⟩) l1.length cO) := (blk_cell HS.out.bk 3).trans rfl
              have kO : wr.cell? ⟨gO, x.toNat, none⟩ = some (.int .i64 (rd O2 x)) := (HS.out.rO.cell x HX0.out.1 HX0.out.2).1
              have fO : wr.frozen? ⟨gO, x.toNat, none⟩ = false := (HS.out.rO.cell x HX0.out.1 HX0.out.2).2
              go_wp2_with (first | ((with_reducible refine gate_store (t := 3) (p := 214) rfl ?_); refine store_event (t := 3) (p := 214) (v := ?vo_3) (w1 := (wr.setCell ⟨gO, x.toNat, none⟩ (.int .i64 a3))) ?hg ?ho ?hn ?hr ?_; (case ho => rfl); (case hg => rfl); (case hn => rfl); (case hr => first | (go_simp; done) | (go_simp; rfl)); intro w6 hw_; have HS2 := Aside0.mk (show St w0 w P l1.length ⟨gL, cL, gB, cB, gO, cO, gl, cl, gf, cf, gg, cg, gb⟩ #[.slice A1 l1.length c1, .slice (some ⟨gL, 0, none⟩) l1.length cL, .slice (some ⟨gB, 0, none⟩) l1.length cB, .slice (some ⟨gO, 0, none⟩) l1.length cO] 82 L B (O2.set x.toNat a3) ls fr gn w6 by rw [hw_]; exact HS.out.sO HA.out x a3); clear HS; have HS := HS2; clear HS2; clear kO fO kf k3; have kf6 : w6.cell? ⟨gf, x.toNat, none⟩ = some (.int .i64 f) := (by rw [← HFE.out]; exact (HS.out.rf.cell x HX0.out.1 HX0.out.2).1); clear hw_))
              go_roundg k4
              case measure => omega
              case rel => exact ⟨f, (O2.set x.toNat a3), rfl, HFN, HN, HS⟩
      · have da : decide (a < 0) = false := decide_eq_false ca
        have h_ := HH.out
        rw [if_neg ca] at h_
        by_cases c1 : 0 ≤ bb
        case neg => rw [if_neg c1] at h_; cases h_
        rw [if_pos c1] at h_
        have HN := Aside0.mk h_
        have HOW := Aside0.mk (show 0 ≤ a ∧ a < (l1.length : Int) from ⟨by omega, HAT.out⟩)
        have HBB := Aside0.mk (show 0 ≤ bb ∧ bb < (l1.length : Int) from ⟨c1, HBF.out ▸ bestF_lt S.1 gn l1.length l1.length 0 (-1) (by omega) (by have := HL.out; omega)⟩)
        have HGN := Aside0.mk (show ∀ x, 0 ≤ x → x < (l1.length : Int) → rdOf false gn x = true → 0 ≤ rd l2 x from fun x h0 h1 hg => by
          rcases HF.out.2.2 x h0 h1 hg with e | e
          · have h2 := HAV.out
            unfold atV at h2
            rw [← e, if_pos h0] at h2
            rw [h2]
            exact HOW.out.1
          · exact e)
        have HFR := Aside0.mk HF.out.2.1
        have HLT := Aside0.mk HF.out.1
        clear h_ HH ca c1 HF HAV HAT
        go_wp2
        go_loopg [11] l1.length (fun gk v11 w' => ∃ (x : Int) (ls1 fr1 : List Int), v11 = .int .i64 x ∧ Aside0 (0 ≤ x ∧ x + gk = (l1.length : Int)) ∧ Aside0 (∀ x ∈ fr1, x < (l1.length : Int)) ∧ Aside0 (scan1F l1 L B gn last a gk x (ls1, fr1) = S) ∧ Aside0 (St w0 w P l1.length ⟨gL, cL, gB, cB, gO, cO, gl, cl, gf, cf, gg, cg, gb⟩ #[.slice A1 l1.length c1, .slice (some ⟨gL, 0, none⟩) l1.length cL, .slice (some ⟨gB, 0, none⟩) l1.length cB, .slice (some ⟨gO, 0, none⟩) l1.length cO] 82 L B l2 ls1 fr1 gn w'))
        case atStart => exact ⟨0, ls, fr, rfl, ⟨⟨by omega, by omega⟩⟩, HFR, HSF, HS⟩
        case round =>
         clear HSF HS HFR da
         obtain ⟨x, ls1, fr1, rfl, HX, HFR, HSF, HS⟩ := hrel
         cases gk with
         | succ k2 =>
          have dx : decide (x < (l1.length : Int)) = true := decide_eq_true (by have := HX.out; omega)
          have HX0 := Aside0.mk (show 0 ≤ x ∧ x < (l1.length : Int) by have := HX.out; omega)
          have px : (0 ≤ x) = True := eq_true HX0.out.1
          have qx : (x < (l1.length : Int)) = True := eq_true HX0.out.2
          have hx1 : wrap64 (x + 1) = x + 1 := by have := HX.out; have := HL.out; unfold wrap64; omega
          have po : (0 ≤ a) = True := eq_true HOW.out.1
          have qo : (a < (l1.length : Int)) = True := eq_true HOW.out.2
          go_wp2
          replace HS := Aside0.mk HS.out.drew
          obtain ⟨adC, AC, cC, eC, hxC, hlC, hiC⟩ := at_L1 (Kd.C_kept_now HR1.out HS.out.kp) a HOW.out.1 HOW.out.2
          cases eC
          have hrl : (rd_L1 l1 a).length = l1.length := HROW.out _ (rd_mem HOW.out.1 HOW.out.2)
          rw [hrl] at hxC
          obtain ⟨adR, eR, hxR⟩ := Kd.at_int hiC x HX0.out.1 (by rw [hrl]; exact HX0.out.2)
          cases eR
          have hk0 : wr.drew.cell? ⟨gb, 0, none⟩ = some (.slice (some adC) l1.length c1) := (blk_cell HS.out.bk 0).trans rfl
          have hk1 : wr.drew.cell? ⟨gb, 1, none⟩ = some (.slice (some ⟨gL, 0, none⟩) l1.length cL) := (blk_cell HS.out.bk 1).trans rfl
          have hk2 : wr.drew.cell? ⟨gb, 2, none⟩ = some (.slice (some ⟨gB, 0, none⟩) l1.length cB) := (blk_cell HS.out.bk 2).trans rfl
          have hxL : wr.drew.cell? ⟨gL, a.toNat, none⟩ = some (.int .i64 (rd L a)) := (HS.out.rL.cell a HOW.out.1 HOW.out.2).1
          have hxB : wr.drew.cell? ⟨gB, x.toNat, none⟩ = some (.int .i64 (rd B x)) := (HS.out.rB.cell x HX0.out.1 HX0.out.2).1
          clear hlC hiC hrl
          refine start_ (n := 29) (S := fun w' => w'.cell? ⟨gb, 0, none⟩ = some (.slice (some adC) l1.length c1) ∧ w'.cell? ⟨gb, 1, none⟩ = some (.slice (some ⟨gL, 0, none⟩) l1.length cL) ∧ w'.cell? ⟨gb, 2, none⟩ = some (.slice (some ⟨gB, 0, none⟩) l1.length cB) ∧ w'.cell? (adC.add a.toNat) = some (.slice (some adR) l1.length cC) ∧ w'.cell? (adR.add x.toNat) = some (.int .i64 (rd (rd_L1 l1 a) x)) ∧ w'.cell? ⟨gL, a.toNat, none⟩ = some (.int .i64 (rd L a)) ∧ w'.cell? ⟨gB, x.toNat, none⟩ = some (.int .i64 (rd B x))) (ds := []) #[false, false, false, false, false, false, false, false, false, false, false, false, false, false, false, false, false, false, false, false, false, false, false, false, false, false, false, false, false] (by kernel_rfl) rfl rfl ⟨hk0, hk1, hk2, hxC, hxR, hxL, hxB⟩ (fun hHeld => ?_); refine with_tabW spec_l9M_seek.tab18 spec_l9M_seek.bits18 (fun HT_ HW_ => ?_)
          generalize wr.drew = w4 at HS hk0 hk1 hk2 hxC hxR hxL hxB hHeld ⊢
          refine pure_ (i := 0) (N := some 58) (v := ?_) (a' := ?_) #[true, false, false, false, false, false, false, false, false, false, false, false, false, false, false, false, false, false, false, false, false, false, false, false, false, false, false, false, false] rfl rfl (any_of HT_.out (by kernel_rfl)) (fun _ _ _ h => h) (Or.inl ⟨by rfl, ?_⟩) ?_ ?_
          rotate_left
          · intro w'
            go_simp
            with_reducible rfl
          rotate_left
          · simp only [Act.put, List.setIfInBounds_toArray, List.set_cons_zero, List.set_cons_succ, i64_w, i32_w]
            rfl
          refine pure_ (i := 1) (N := some 59) (v := ?_) (a' := ?_) #[true, true, false, false, false, false, false, false, false, false, false, false, false, false, false, false, false, false, false, false, false, false, false, false, false, false, false, false, false] rfl rfl (any_of HT_.out (by kernel_rfl)) (fun _ _ _ h => h) (Or.inl ⟨by rfl, ?_⟩) ?_ ?_
          rotate_left
          · intro w'
            go_simp
            with_reducible rfl
          rotate_left
          · simp only [Act.put, List.setIfInBounds_toArray, List.set_cons_zero, List.set_cons_succ, i64_w, i32_w]
            rfl
          refine pure_ (i := 2) (N := some 60) (v := ?_) (a' := ?_) #[true, true, true, false, false, false, false, false, false, false, false, false, false, false, false, false, false, false, false, false, false, false, false, false, false, false, false, false, false] rfl rfl (any_of HT_.out (by kernel_rfl)) (fun _ _ _ h => h) (Or.inl ⟨by rfl, ?_⟩) ?_ ?_
          rotate_left
          · intro w'
            go_simp
            with_reducible rfl
          rotate_left
          · simp only [Act.put, List.setIfInBounds_toArray, List.set_cons_zero, List.set_cons_succ, i64_w, i32_w]
            rfl
          refine pure_ (i := 4) (N := some 62) (v := ?_) (a' := ?_) #[true, true, true, false, true, false, false, false, false, false, false, false, false, false, false, false, false, false, false, false, false, false, false, false, false, false, false, false, false] rfl rfl (any_of HT_.out (by kernel_rfl)) (fun _ _ _ h => h) (Or.inl ⟨by rfl, ?_⟩) ?_ ?_
          rotate_left
          · intro w'
            go_simp
            with_reducible rfl
          rotate_left
          · simp only [Act.put, List.setIfInBounds_toArray, List.set_cons_zero, List.set_cons_succ, i64_w, i32_w]
            rfl
          refine pure_ (i := 7) (N := some 65) (v := ?_) (a' := ?_) #[true, true, true, false, true, false, false, true, false, false, false, false, false, false, false, false, false, false, false, false, false, false, false, false, false, false, false, false, false] rfl rfl (any_of HT_.out (by kernel_rfl)) (fun _ _ _ h => h) (Or.inl ⟨by rfl, ?_⟩) ?_ ?_
          rotate_left
          · intro w'
            go_simp
            with_reducible rfl
          rotate_left
          · simp only [Act.put, List.setIfInBounds_toArray, List.set_cons_zero, List.set_cons_succ, i64_w, i32_w]
            rfl
          refine pure_ (i := 10) (N := some 68) (v := ?_) (a' := ?_) #[true, true, true, false, true, false, false, true, false, false, true, false, false, false, false, false, false, false, false, false, false, false, false, false, false, false, false, false, false] rfl rfl (any_of HT_.out (by kernel_rfl)) (fun _ _ _ h => h) (Or.inl ⟨by rfl, ?_⟩) ?_ ?_
          rotate_left
          · intro w'
            go_simp
            with_reducible rfl
          rotate_left
          · simp only [Act.put, List.setIfInBounds_toArray, List.set_cons_zero, List.set_cons_succ, i64_w, i32_w]
            rfl
          refine pure_ (i := 11) (N := some 69) (v := ?_) (a' := ?_) #[true, true, true, false, true, false, false, true, false, false, true, true, false, false, false, false, false, false, false, false, false, false, false, false, false, false, false, false, false] rfl rfl (any_of HT_.out (by kernel_rfl)) (fun _ _ _ h => h) (Or.inl ⟨by rfl, ?_⟩) ?_ ?_
          rotate_left
          · intro w'
            go_simp
            with_reducible rfl
          rotate_left
          · simp only [Act.put, List.setIfInBounds_toArray, List.set_cons_zero, List.set_cons_succ, i64_w, i32_w]
            rfl
          refine pure_ (i := 12) (N := some 70) (v := ?_) (a' := ?_) #[true, true, true, false, true, false, false, true, false, false, true, true, true, false, false, false, false, false, false, false, false, false, false, false, false, false, false, false, false] rfl rfl (any_of HT_.out (by kernel_rfl)) (fun _ _ _ h => h) (Or.inl ⟨by rfl, ?_⟩) ?_ ?_
          rotate_left
          · intro w'
            go_simp
            with_reducible rfl
          rotate_left
          · simp only [Act.put, List.setIfInBounds_toArray, List.set_cons_zero, List.set_cons_succ, i64_w, i32_w]
            rfl
          refine pure_ (i := 13) (N := some 71) (v := ?_) (a' := ?_) #[true, true, true, false, true, false, false, true, false, false, true, true, true, true, false, false, false, false, false, false, false, false, false, false, false, false, false, false, false] rfl rfl (any_of HT_.out (by kernel_rfl)) (fun _ _ _ h => h) (Or.inl ⟨by rfl, ?_⟩) ?_ ?_
          rotate_left
          · intro w'
            go_simp
            with_reducible rfl
          rotate_left
          · simp only [Act.put, List.setIfInBounds_toArray, List.set_cons_zero, List.set_cons_succ, i64_w, i32_w]
            rfl
          refine pure_ (i := 15) (N := some 73) (v := ?_) (a' := ?_) #[true, true, true, false, true, false, false, true, false, false, true, true, true, true, false, true, false, false, false, false, false, false, false, false, false, false, false, false, false] rfl rfl (any_of HT_.out (by kernel_rfl)) (fun _ _ _ h => h) (Or.inl ⟨by rfl, ?_⟩) ?_ ?_
          rotate_left
          · intro w'
            go_simp
            with_reducible rfl
          rotate_left
          · simp only [Act.put, List.setIfInBounds_toArray, List.set_cons_zero, List.set_cons_succ, i64_w, i32_w]
            rfl
          refine pure_ (i := 19) (N := some 77) (v := ?_) (a' := ?_) #[true, true, true, false, true, false, false, true, false, false, true, true, true, true, false, true, false, false, false, true, false, false, false, false, false, false, false, false, false] rfl rfl (any_of HT_.out (by kernel_rfl)) (fun _ _ _ h => h) (Or.inl ⟨by rfl, ?_⟩) ?_ ?_
          rotate_left
          · intro w'
            go_simp
            with_reducible rfl
          rotate_left
          · simp only [Act.put, List.setIfInBounds_toArray, List.set_cons_zero, List.set_cons_succ, i64_w, i32_w]
            rfl
          refine pure_ (i := 20) (N := some 78) (v := ?_) (a' := ?_) #[true, true, true, false, true, false, false, true, false, false, true, true, true, true, false, true, false, false, false, true, true, false, false, false, false, false, false, false, false] rfl rfl (any_of HT_.out (by kernel_rfl)) (fun _ _ _ h => h) (Or.inl ⟨by rfl, ?_⟩) ?_ ?_
          rotate_left
          · intro w'
            go_simp
            with_reducible rfl
          rotate_left
          · simp only [Act.put, List.setIfInBounds_toArray, List.set_cons_zero, List.set_cons_succ, i64_w, i32_w]
            rfl
          refine pure_ (i := 21) (N := some 79) (v := ?_) (a' := ?_) #[true, true, true, false, true, false, false, true, false, false, true, true, true, true, false, true, false, false, false, true, true, true, false, false, false, false, false, false, false] rfl rfl (any_of HT_.out (by kernel_rfl)) (fun _ _ _ h => h) (Or.inl ⟨by rfl, ?_⟩) ?_ ?_
          rotate_left
          · intro w'
            go_simp
            with_reducible rfl
          rotate_left
          · simp only [Act.put, List.setIfInBounds_toArray, List.set_cons_zero, List.set_cons_succ, i64_w, i32_w]
            rfl
          refine pure_ (i := 22) (N := some 80) (v := ?_) (a' := ?_) #[true, true, true, false, true, false, false, true, false, false, true, true, true, true, false, true, false, false, false, true, true, true, true, false, false, false, false, false, false] rfl rfl (any_of HT_.out (by kernel_rfl)) (fun _ _ _ h => h) (Or.inl ⟨by rfl, ?_⟩) ?_ ?_
          rotate_left
          · intro w'
            go_simp
            with_reducible rfl
          rotate_left
          · simp only [Act.put, List.setIfInBounds_toArray, List.set_cons_zero, List.set_cons_succ, i64_w, i32_w]
            rfl
          refine pure_ (i := 24) (N := some 82) (v := ?_) (a' := ?_) #[true, true, true, false, true, false, false, true, false, false, true, true, true, true, false, true, false, false, false, true, true, true, true, false, true, false, false, false, false] rfl rfl (any_of HT_.out (by kernel_rfl)) (fun _ _ _ h => h) (Or.inl ⟨by rfl, ?_⟩) ?_ ?_
          rotate_left
          · intro w'
            go_simp
            with_reducible rfl
          rotate_left
          · simp only [Act.put, List.setIfInBounds_toArray, List.set_cons_zero, List.set_cons_succ, i64_w, i32_w]
            rfl
          refine take_ (i := 3) (N := some 61) (v := ?_) (a' := ?_) #[true, true, true, true, true, false, false, true, false, false, true, true, true, true, false, true, false, false, false, true, true, true, true, false, true, false, false, false, false] rfl rfl (take_ofW HT_.out HW_.out (by kernel_rfl)) (fun _ _ _ h => h) (Or.inl ⟨by rfl, ?_⟩) hHeld ?_ ?_
          rotate_left
          · rintro w' ⟨s0, s1, s2, s3, s4, s5, s6⟩
            go_simp
            with_reducible rfl
          rotate_left
          · simp only [Act.put, List.setIfInBounds_toArray, List.set_cons_zero, List.set_cons_succ, i64_w, i32_w]
            rfl
          refine pure_ (i := 5) (N := some 63) (v := ?_) (a' := ?_) #[true, true, true, true, true, true, false, true, false, false, true, true, true, true, false, true, false, false, false, true, true, true, true, false, true, false, false, false, false] rfl rfl (any_of HT_.out (by kernel_rfl)) (fun _ _ _ h => h) (Or.inl ⟨by rfl, ?_⟩) ?_ ?_
          rotate_left
          · intro w'
            go_simp
            with_reducible rfl
          rotate_left
          · simp only [Act.put, List.setIfInBounds_toArray, List.set_cons_zero, List.set_cons_succ, i64_w, i32_w]
            rfl
          refine take_ (i := 6) (N := some 64) (v := ?_) (a' := ?_) #[true, true, true, true, true, true, true, true, false, false, true, true, true, true, false, true, false, false, false, true, true, true, true, false, true, false, false, false, false] rfl rfl (take_ofW HT_.out HW_.out (by kernel_rfl)) (fun _ _ _ h => h) (Or.inl ⟨by rfl, ?_⟩) hHeld ?_ ?_
          rotate_left
          · rintro w' ⟨s0, s1, s2, s3, s4, s5, s6⟩
            go_simp
            with_reducible rfl
          rotate_left
          · simp only [Act.put, List.setIfInBounds_toArray, List.set_cons_zero, List.set_cons_succ, i64_w, i32_w]
            rfl
          refine pure_ (i := 8) (N := some 66) (v := ?_) (a' := ?_) #[true, true, true, true, true, true, true, true, true, false, true, true, true, true, false, true, false, false, false, true, true, true, true, false, true, false, false, false, false] rfl rfl (any_of HT_.out (by kernel_rfl)) (fun _ _ _ h => h) (Or.inl ⟨by rfl, ?_⟩) ?_ ?_
          rotate_left
          · intro w'
            go_simp
            with_reducible rfl
          rotate_left
          · simp only [Act.put, List.setIfInBounds_toArray, List.set_cons_zero, List.set_cons_succ, i64_w, i32_w]
            rfl
          refine take_ (i := 9) (N := some 67) (v := ?_) (a' := ?_) #[true, true, true, true, true, true, true, true, true, true, true, true, true, true, false, true, false, false, false, true, true, true, true, false, true, false, false, false, false] rfl rfl (take_ofW HT_.out HW_.out (by kernel_rfl)) (fun _ _ _ h => h) (Or.inl ⟨by rfl, ?_⟩) hHeld ?_ ?_
          rotate_left
          · rintro w' ⟨s0, s1, s2, s3, s4, s5, s6⟩
            go_simp
            with_reducible rfl
          rotate_left
          · simp only [Act.put, List.setIfInBounds_toArray, List.set_cons_zero, List.set_cons_succ, i64_w, i32_w]
            rfl
          refine take_ (i := 14) (N := some 72) (v := ?_) (a' := ?_) #[true, true, true, true, true, true, true, true, true, true, true, true, true, true, true, true, false, false, false, true, true, true, true, false, true, false, false, false, false] rfl rfl (take_ofW HT_.out HW_.out (by kernel_rfl)) (fun _ _ _ h => h) (Or.inl ⟨by rfl, ?_⟩) hHeld ?_ ?_
          rotate_left
          · rintro w' ⟨s0, s1, s2, s3, s4, s5, s6⟩
            go_simp
            with_reducible rfl
          rotate_left
          · simp only [Act.put, List.setIfInBounds_toArray, List.set_cons_zero, List.set_cons_succ, i64_w, i32_w]
            rfl
          refine pure_ (i := 16) (N := some 74) (v := ?_) (a' := ?_) #[true, true, true, true, true, true, true, true, true, true, true, true, true, true, true, true, true, false, false, true, true, true, true, false, true, false, false, false, false] rfl rfl (any_of HT_.out (by kernel_rfl)) (fun _ _ _ h => h) (Or.inl ⟨by rfl, ?_⟩) ?_ ?_
          rotate_left
          · intro w'
            go_simp
            with_reducible rfl
          rotate_left
          · simp only [Act.put, List.setIfInBounds_toArray, List.set_cons_zero, List.set_cons_succ, i64_w, i32_w]
            rfl
          refine take_ (i := 17) (N := some 75) (v := ?_) (a' := ?_) #[true, true, true, true, true, true, true, true, true, true, true, true, true, true, true, true, true, true, false, true, true, true, true, false, true, false, false, false, false] rfl rfl (take_ofW HT_.out HW_.out (by kernel_rfl)) (fun _ _ _ h => h) (Or.inl ⟨by rfl, ?_⟩) hHeld ?_ ?_
          rotate_left
          · rintro w' ⟨s0, s1, s2, s3, s4, s5, s6⟩
            go_simp
            with_reducible rfl
          rotate_left
          · simp only [Act.put, List.setIfInBounds_toArray, List.set_cons_zero, List.set_cons_succ, i64_w, i32_w]
            rfl
          refine pure_ (i := 18) (N := some 76) (v := ?_) (a' := ?_) #[true, true, true, true, true, true, true, true, true, true, true, true, true, true, true, true, true, true, true, true, true, true, true, false, true, false, false, false, false] rfl rfl (any_of HT_.out (by kernel_rfl)) (fun _ _ _ h => h) (Or.inl ⟨by rfl, ?_⟩) ?_ ?_
          rotate_left
          · intro w'
            go_simp
            with_reducible rfl
          rotate_left
          · simp only [Act.put, List.setIfInBounds_toArray, List.set_cons_zero, List.set_cons_succ, i64_w, i32_w]
            rfl
          refine take_ (i := 23) (N := some 81) (v := ?_) (a' := ?_) #[true, true, true, true, true, true, true, true, true, true, true, true, true, true, true, true, true, true, true, true, true, true, true, true, true, false, false, false, false] rfl rfl (take_ofW HT_.out HW_.out (by kernel_rfl)) (fun _ _ _ h => h) (Or.inl ⟨by rfl, ?_⟩) hHeld ?_ ?_
          rotate_left
          · rintro w' ⟨s0, s1, s2, s3, s4, s5, s6⟩
            go_simp
            with_reducible rfl
          rotate_left
          · simp only [Act.put, List.setIfInBounds_toArray, List.set_cons_zero, List.set_cons_succ, i64_w, i32_w]
            rfl
          refine pure_ (i := 25) (N := some 83) (v := ?_) (a' := ?_) #[true, true, true, true, true, true, true, true, true, true, true, true, true, true, true, true, true, true, true, true, true, true, true, true, true, true, false, false, false] rfl rfl (any_of HT_.out (by kernel_rfl)) (fun _ _ _ h => h) (Or.inl ⟨by rfl, ?_⟩) ?_ ?_
          rotate_left
          · intro w'
            go_simp
            with_reducible rfl
          rotate_left
          · simp only [Act.put, List.setIfInBounds_toArray, List.set_cons_zero, List.set_cons_succ, i64_w, i32_w]
            rfl
          refine take_ (i := 26) (N := some 84) (v := ?_) (a' := ?_) #[true, true, true, true, true, true, true, true, true, true, true, true, true, true, true, true, true, true, true, true, true, true, true, true, true, true, true, false, false] rfl rfl (take_ofW HT_.out HW_.out (by kernel_rfl)) (fun _ _ _ h => h) (Or.inl ⟨by rfl, ?_⟩) hHeld ?_ ?_
          rotate_left
          · rintro w' ⟨s0, s1, s2, s3, s4, s5, s6⟩
            go_simp
            with_reducible rfl
          rotate_left
          · simp only [Act.put, List.setIfInBounds_toArray, List.set_cons_zero, List.set_cons_succ, i64_w, i32_w]
            rfl
          refine pure_ (i := 27) (N := some 85) (v := ?_) (a' := ?_) #[true, true, true, true, true, true, true, true, true, true, true, true, true, true, true, true, true, true, true, true, true, true, true, true, true, true, true, true, false] rfl rfl (any_of HT_.out (by kernel_rfl)) (fun _ _ _ h => h) (Or.inl ⟨by rfl, ?_⟩) ?_ ?_
          rotate_left
          · intro w'
            go_simp
            with_reducible rfl
          rotate_left
          · simp only [Act.put, List.setIfInBounds_toArray, List.set_cons_zero, List.set_cons_succ, i64_w, i32_w]
            rfl
          refine pure_ (i := 28) (N := some 12) (v := ?_) (a' := ?_) #[true, true, true, true, true, true, true, true, true, true, true, true, true, true, true, true, true, true, true, true, true, true, true, true, true, true, true, true, true] rfl rfl (any_of HT_.out (by kernel_rfl)) (fun _ _ _ h => h) (Or.inl ⟨by rfl, ?_⟩) ?_ ?_
          rotate_left
          · intro w'
            go_simp
            with_reducible rfl
          rotate_left
          · simp only [Act.put, List.setIfInBounds_toArray, List.set_cons_zero, List.set_cons_succ, i64_w, i32_w]
            rfl
          refine done_ (done_of HT_.out (by kernel_rfl)) ?_
          clear hHeld hk0 hk1 hk2 hxC hxR hxL hxB
          by_cases hg : rdOf false gn x = true
          · have hcg : w4.cell? ⟨gg, x.toNat, none⟩ = some (.bool true) := by rw [← hg]; exact (HS.out.rg.cell x HX0.out.1 HX0.out.2).1
            have es : scan1S l1 L B gn last a x (ls1, fr1) = (ls1, fr1) := by unfold scan1S; rw [if_pos hg]
            clear hg
            go_wp2
            go_roundg k2
            case measure => omega
            case rel => exact ⟨x + 1, ls1, fr1, by first | rfl | rw [hx1], ⟨by have := HX.out; omega⟩, HFR, ⟨by have h_ := HSF.out; rw [scan1F, es] at h_; exact h_⟩, HS⟩
          · have hcg : w4.cell? ⟨gg, x.toNat, none⟩ = some (.bool false) := by rw [show false = rdOf false gn x by revert hg; cases rdOf false gn x <;> simp]; exact (HS.out.rg.cell x HX0.out.1 HX0.out.2).1
            have kl : w4.cell? ⟨gl, x.toNat, none⟩ = some (.int .i64 (rd ls1 x)) := (HS.out.rl.cell x HX0.out.1 HX0.out.2).1
            have fl : w4.frozen? ⟨gl, x.toNat, none⟩ = false := (HS.out.rl.cell x HX0.out.1 HX0.out.2).2
            by_cases hc : (wrap64 ((wrap64 ((rd (rd_L1 l1 a) x) - (rd L a))) - (rd B x))) < rd ls1 x
            · have dc : decide ((wrap64 ((wrap64 ((rd (rd_L1 l1 a) x) - (rd L a))) - (rd B x))) < rd ls1 x) = true := decide_eq_true hc
              have es : scan1S l1 L B gn last a x (ls1, fr1) = ((ls1.set x.toNat (wrap64 ((wrap64 ((rd (rd_L1 l1 a) x) - (rd L a))) - (rd B x)))), (fr1.set x.toNat last)) := by unfold scan1S; rw [if_neg hg, if_pos (show seenV l1 L B a x < rd ls1 x from hc)]; rfl
              clear hc hg
              go_upto_region 20 with fail
              go_wp2_with (first | ((with_reducible refine gate_store (t := 3) (p := 102) rfl ?_); refine store_event (t := 3) (p := 102) (v := ?vo_4) (w1 := (w4.setCell ⟨gl, x.toNat, none⟩ (.int .i64 (wrap64 ((wrap64 ((rd (rd_L1 l1 a) x) - (rd L a))) - (rd B x)))))) ?hg ?ho ?hn ?hr ?_; (case ho => rfl); (case hg => rfl); (case hn => rfl); (case hr => first | (go_simp; done) | (go_simp; rfl)); intro w5 hw_; have HS5 := Aside0.mk (show St w0 w P l1.length ⟨gL, cL, gB, cB, gO, cO, gl, cl, gf, cf, gg, cg, gb⟩ #[.slice (some adC) l1.length c1, .slice (some ⟨gL, 0, none⟩) l1.length cL, .slice (some ⟨gB, 0, none⟩) l1.length cB, .slice (some ⟨gO, 0, none⟩) l1.length cO] 82 L B l2 (ls1.set x.toNat (wrap64 ((wrap64 ((rd (rd_L1 l1 a) x) - (rd L a))) - (rd B x)))) fr1 gn w5 by rw [hw_]; exact HS.out.sl HA.out x (wrap64 ((wrap64 ((rd (rd_L1 l1 a) x) - (rd L a))) - (rd B x)))); have kf : w5.cell? ⟨gf, x.toNat, none⟩ = some (.int .i64 (rd fr1 x)) := (HS5.out.rf.cell x HX0.out.1 HX0.out.2).1; have ff : w5.frozen? ⟨gf, x.toNat, none⟩ = false := (HS5.out.rf.cell x HX0.out.1 HX0.out.2).2; clear HS kl fl hcg; clear hw_) | ((with_reducible refine gate_store (t := 3) (p := 106) rfl ?_); refine store_event (t := 3) (p := 106) (v := ?vo_5) (w1 := (w5.setCell ⟨gf, x.toNat, none⟩ (.int .i64 last))) ?hg ?ho ?hn ?hr ?_; (case ho => rfl); (case hg => rfl); (case hn => rfl); (case hr => first | (go_simp; done) | (go_simp; rfl)); intro w6 hw_; have HS := Aside0.mk (show St w0 w P l1.length ⟨gL, cL, gB, cB, gO, cO, gl, cl, gf, cf, gg, cg, gb⟩ #[.slice (some adC) l1.length c1, .slice (some ⟨gL, 0, none⟩) l1.length cL, .slice (some ⟨gB, 0, none⟩) l1.length cB, .slice (some ⟨gO, 0, none⟩) l1.length cO] 82 L B l2 (ls1.set x.toNat (wrap64 ((wrap64 ((rd (rd_L1 l1 a) x) - (rd L a))) - (rd B x)))) (fr1.set x.toNat last) gn w6 by rw [hw_]; exact HS5.out.sf HA.out x last); clear HS5 kf ff; clear hw_))
              go_roundg k2
              case measure => omega
              case rel => exact ⟨x + 1, (ls1.set x.toNat (wrap64 ((wrap64 ((rd (rd_L1 l1 a) x) - (rd L a))) - (rd B x)))), (fr1.set x.toNat last), by first | rfl | rw [hx1], ⟨by have := HX.out; omega⟩, ⟨mem_set HFR.out HLT.out _⟩, ⟨by have h_ := HSF.out; rw [scan1F, es] at h_; exact h_⟩, HS⟩
            · have dc : decide ((wrap64 ((wrap64 ((rd (rd_L1 l1 a) x) - (rd L a))) - (rd B x))) < rd ls1 x) = false := decide_eq_false hc
              have es : scan1S l1 L B gn last a x (ls1, fr1) = (ls1, fr1) := by unfold scan1S; rw [if_neg hg, if_neg (show ¬ seenV l1 L B a x < rd ls1 x from hc)]
              clear hc hg
              go_wp2
              go_roundg k2
              case measure => omega
              case rel => exact ⟨x + 1, ls1, fr1, by first | rfl | rw [hx1], ⟨by have := HX.out; omega⟩, HFR, ⟨by have h_ := HSF.out; rw [scan1F, es] at h_; exact h_⟩, HS⟩
         | zero =>
          have dx : decide (x < (l1.length : Int)) = false := decide_eq_false (by have := HX.out; omega)
          have e : S = (ls1, fr1) := HSF.out.symm
          subst e
          clear HX HSF
          have HBF1 := Aside0.mk (show bestF ls1 gn l1.length 0 (-1) = bb from HBF.out)
          have HAF1 := Aside0.mk (show adjF by_ gn l2 l1.length 0 (L.set a3.toNat (wrap64 ((rd L a3) + by_)), B, ls1) = A from HAF.out)
          have HYF1 := Aside0.mk (show rd ls1 bb = by_ from HYF.out)
          have HN1 := Aside0.mk (show outS l1 l2 l1.length a3 k1 A.2.2 fr1 (gn.set bb.toNat true) bb A.1 A.2.1 = some s from HN.out)
          clear HBF HAF HYF HN
          go_wp2
          go_loopg [13, 14] l1.length (fun gk v13 v14 w' => ∃ (x b : Int), v13 = .int .i64 b ∧ v14 = .int .i64 x ∧ Aside0 ((0 ≤ x ∧ x + gk = (l1.length : Int)) ∧ b < (l1.length : Int)) ∧ Aside0 (bestF ls1 gn gk x b = bb) ∧ Aside0 (St w0 w P l1.length ⟨gL, cL, gB, cB, gO, cO, gl, cl, gf, cf, gg, cg, gb⟩ #[.slice A1 l1.length c1, .slice (some ⟨gL, 0, none⟩) l1.length cL, .slice (some ⟨gB, 0, none⟩) l1.length cB, .slice (some ⟨gO, 0, none⟩) l1.length cO] 82 L B l2 ls1 fr1 gn w'))
          case atStart => exact ⟨0, -1, rfl, rfl, ⟨⟨by omega, by omega⟩, by have := HL.out; omega⟩, HBF1, HS⟩
          case round =>
           clear HS dx HBF1
           obtain ⟨x, b, rfl, rfl, HX, HBF, HS⟩ := hrel
           cases gk with
           | succ k2 =>
            have dx : decide (x < (l1.length : Int)) = true := decide_eq_true (by have := HX.out; omega)
            have HX0 := Aside0.mk (show 0 ≤ x ∧ x < (l1.length : Int) by have := HX.out; omega)
            have px : (0 ≤ x) = True := eq_true HX0.out.1
            have qx : (x < (l1.length : Int)) = True := eq_true HX0.out.2
            have hx1 : wrap64 (x + 1) = x + 1 := by have := HX.out; have := HL.out; unfold wrap64; omega
            go_wp2
            replace HS := Aside0.mk HS.out.drew
            have HGC := Aside0.mk ((HS.out.rg.cell x HX0.out.1 HX0.out.2).1)
            by_cases hg : rdOf false gn x = true
            · have hcg : wr.drew.cell? ⟨gg, x.toNat, none⟩ = some (.bool true) := by rw [← hg]; exact HGC.out
              have es : (if rdOf false gn x = true then b else pickB ls1 x b) = b := by rw [if_pos hg]
              clear hg HGC
              refine start_ (n := 20) (S := fun w' => w'.cell? ⟨gg, x.toNat, none⟩ = some (.bool true)) (ds := []) #[false, false, false, false, false, false, false, false, false, false, false, false, false, false, false, false, false, false, false, false] (by kernel_rfl) rfl rfl (hcg) (fun hHeld => ?_); refine with_tabW spec_l9M_seek.tab26 spec_l9M_seek.bits26 (fun HT_ HW_ => ?_)
              generalize wr.drew = w5 at HS hcg hHeld ⊢
              refine pure_ (i := 0) (N := some 112) (v := ?_) (a' := ?_) #[true, false, false, false, false, false, false, false, false, false, false, false, false, false, false, false, false, false, false, false] rfl rfl (any_of HT_.out (by kernel_rfl)) (fun _ _ _ h => h) (Or.inl ⟨by rfl, ?_⟩) ?_ ?_
              rotate_left
              · intro w'
                go_simp
                with_reducible rfl
              rotate_left
              · simp only [Act.put, List.setIfInBounds_toArray, List.set_cons_zero, List.set_cons_succ, i64_w, i32_w]
                rfl
              refine pure_ (i := 1) (N := some 113) (v := ?_) (a' := ?_) #[true, true, false, false, false, false, false, false, false, false, false, false, false, false, false, false, false, false, false, false] rfl rfl (any_of HT_.out (by kernel_rfl)) (fun _ _ _ h => h) (Or.inl ⟨by rfl, ?_⟩) ?_ ?_
              rotate_left
              · intro w'
                go_simp
                with_reducible rfl
              rotate_left
              · simp only [Act.put, List.setIfInBounds_toArray, List.set_cons_zero, List.set_cons_succ, i64_w, i32_w]
                rfl
              refine pure_ (i := 2) (N := some 114) (v := ?_) (a' := ?_) #[true, true, true, false, false, false, false, false, false, false, false, false, false, false, false, false, false, false, false, false] rfl rfl (any_of HT_.out (by kernel_rfl)) (fun _ _ _ h => h) (Or.inl ⟨by rfl, ?_⟩) ?_ ?_
              rotate_left
              · intro w'
                go_simp
                with_reducible rfl
              rotate_left
              · simp only [Act.put, List.setIfInBounds_toArray, List.set_cons_zero, List.set_cons_succ, i64_w, i32_w]
                rfl
              refine take_ (i := 3) (N := some 115) (v := ?_) (a' := ?_) #[true, true, true, true, false, false, false, false, false, false, false, false, false, false, false, false, false, false, false, false] rfl rfl (take_ofW HT_.out HW_.out (by kernel_rfl)) (fun _ _ _ h => h) (Or.inl ⟨by rfl, ?_⟩) hHeld ?_ ?_
              rotate_left
              · intro w' s0
                go_simp
                with_reducible rfl
              rotate_left
              · simp only [Act.put, List.setIfInBounds_toArray, List.set_cons_zero, List.set_cons_succ, i64_w, i32_w]
                rfl
              refine pure_ (i := 4) (N := some 116) (v := ?_) (a' := ?_) #[true, true, true, true, true, false, false, false, false, false, false, false, false, false, false, false, false, false, false, false] rfl rfl (any_of HT_.out (by kernel_rfl)) (fun _ _ _ h => h) (Or.inl ⟨by rfl, ?_⟩) ?_ ?_
              rotate_left
              · intro w'
                go_simp
                with_reducible rfl
              rotate_left
              · simp only [Act.put, List.setIfInBounds_toArray, List.set_cons_zero, List.set_cons_succ, i64_w, i32_w]
                rfl
              refine pure_ (i := 5) (N := some 117) (v := ?_) (a' := ?_) #[true, true, true, true, true, true, false, false, false, false, false, false, false, false, false, false, false, false, false, false] rfl rfl (any_of HT_.out (by kernel_rfl)) (fun _ _ _ h => h) (Or.inl ⟨by rfl, ?_⟩) ?_ ?_
              rotate_left
              · intro w'
                go_simp
                with_reducible rfl
              rotate_left
              · simp only [Act.put, List.setIfInBounds_toArray, List.set_cons_zero, List.set_cons_succ, i64_w, i32_w]
                rfl
              refine pure_ (i := 6) (N := some 118) (v := undef) (a' := ?_) #[true, true, true, true, true, true, true, false, false, false, false, false, false, false, false, false, false, false, false, false] rfl rfl (any_of HT_.out (by kernel_rfl)) (fun _ _ _ h => h) (Or.inr ⟨by rfl, rfl⟩) ?_ ?_
              rotate_left
              · simp only [Act.put, List.setIfInBounds_toArray, List.set_cons_zero, List.set_cons_succ, i64_w, i32_w]
                rfl
              refine pure_ (i := 7) (N := some 119) (v := undef) (a' := ?_) #[true, true, true, true, true, true, true, true, false, false, false, false, false, false, false, false, false, false, false, false] rfl rfl (any_of HT_.out (by kernel_rfl)) (fun _ _ _ h => h) (Or.inr ⟨by rfl, rfl⟩) ?_ ?_
              rotate_left
              · simp only [Act.put, List.setIfInBounds_toArray, List.set_cons_zero, List.set_cons_succ, i64_w, i32_w]
                rfl
              refine pure_ (i := 8) (N := some 120) (v := undef) (a' := ?_) #[true, true, true, true, true, true, true, true, true, false, false, false, false, false, false, false, false, false, false, false] rfl rfl (any_of HT_.out (by kernel_rfl)) (fun _ _ _ h => h) (Or.inr ⟨by rfl, rfl⟩) ?_ ?_
              rotate_left
              · simp only [Act.put, List.setIfInBounds_toArray, List.set_cons_zero, List.set_cons_succ, i64_w, i32_w]
                rfl
              refine pure_ (i := 9) (N := some 121) (v := undef) (a' := ?_) #[true, true, true, true, true, true, true, true, true, true, false, false, false, false, false, false, false, false, false, false] rfl rfl (any_of HT_.out (by kernel_rfl)) (fun _ _ _ h => h) (Or.inr ⟨by rfl, rfl⟩) ?_ ?_
              rotate_left
              · simp only [Act.put, List.setIfInBounds_toArray, List.set_cons_zero, List.set_cons_succ, i64_w, i32_w]
                rfl
              refine pure_ (i := 10) (N := some 122) (v := undef) (a' := ?_) #[true, true, true, true, true, true, true, true, true, true, true, false, false, false, false, false, false, false, false, false] rfl rfl (any_of HT_.out (by kernel_rfl)) (fun _ _ _ h => h) (Or.inr ⟨by rfl, rfl⟩) ?_ ?_
              rotate_left
              · simp only [Act.put, List.setIfInBounds_toArray, List.set_cons_zero, List.set_cons_succ, i64_w, i32_w]
                rfl
              refine pure_ (i := 11) (N := some 123) (v := undef) (a' := ?_) #[true, true, true, true, true, true, true, true, true, true, true, true, false, false, false, false, false, false, false, false] rfl rfl (any_of HT_.out (by kernel_rfl)) (fun _ _ _ h => h) (Or.inr ⟨by rfl, rfl⟩) ?_ ?_
              rotate_left
              · simp only [Act.put, List.setIfInBounds_toArray, List.set_cons_zero, List.set_cons_succ, i64_w, i32_w]
                rfl
              refine pure_ (i := 12) (N := some 124) (v := undef) (a' := ?_) #[true, true, true, true, true, true, true, true, true, true, true, true, true, false, false, false, false, false, false, false] rfl rfl (any_of HT_.out (by kernel_rfl)) (fun _ _ _ h => h) (Or.inr ⟨by rfl, rfl⟩) ?_ ?_
              rotate_left
              · simp only [Act.put, List.setIfInBounds_toArray, List.set_cons_zero, List.set_cons_succ, i64_w, i32_w]
                rfl
              refine pure_ (i := 13) (N := some 125) (v := undef) (a' := ?_) #[true, true, true, true, true, true, true, true, true, true, true, true, true, true, false, false, false, false, false, false] rfl rfl (any_of HT_.out (by kernel_rfl)) (fun _ _ _ h => h) (Or.inr ⟨by rfl, rfl⟩) ?_ ?_
              rotate_left
              · simp only [Act.put, List.setIfInBounds_toArray, List.set_cons_zero, List.set_cons_succ, i64_w, i32_w]
                rfl
              refine pure_ (i := 14) (N := some 126) (v := undef) (a' := ?_) #[true, true, true, true, true, true, true, true, true, true, true, true, true, true, true, false, false, false, false, false] rfl rfl (any_of HT_.out (by kernel_rfl)) (fun _ _ _ h => h) (Or.inr ⟨by rfl, rfl⟩) ?_ ?_
              rotate_left
              · simp only [Act.put, List.setIfInBounds_toArray, List.set_cons_zero, List.set_cons_succ, i64_w, i32_w]
                rfl
              refine pure_ (i := 15) (N := some 127) (v := undef) (a' := ?_) #[true, true, true, true, true, true, true, true, true, true, true, true, true, true, true, true, false, false, false, false] rfl rfl (any_of HT_.out (by kernel_rfl)) (fun _ _ _ h => h) (Or.inr ⟨by rfl, rfl⟩) ?_ ?_
              rotate_left
              · simp only [Act.put, List.setIfInBounds_toArray, List.set_cons_zero, List.set_cons_succ, i64_w, i32_w]
                rfl
              refine pure_ (i := 16) (N := some 128) (v := undef) (a' := ?_) #[true, true, true, true, true, true, true, true, true, true, true, true, true, true, true, true, true, false, false, false] rfl rfl (any_of HT_.out (by kernel_rfl)) (fun _ _ _ h => h) (Or.inr ⟨by rfl, rfl⟩) ?_ ?_
              rotate_left
              · simp only [Act.put, List.setIfInBounds_toArray, List.set_cons_zero, List.set_cons_succ, i64_w, i32_w]
                rfl
              refine pure_ (i := 17) (N := some 129) (v := undef) (a' := ?_) #[true, true, true, true, true, true, true, true, true, true, true, true, true, true, true, true, true, true, false, false] rfl rfl (any_of HT_.out (by kernel_rfl)) (fun _ _ _ h => h) (Or.inr ⟨by rfl, rfl⟩) ?_ ?_
              rotate_left
              · simp only [Act.put, List.setIfInBounds_toArray, List.set_cons_zero, List.set_cons_succ, i64_w, i32_w]
                rfl
              refine pure_ (i := 18) (N := some 130) (v := undef) (a' := ?_) #[true, true, true, true, true, true, true, true, true, true, true, true, true, true, true, true, true, true, true, false] rfl rfl (any_of HT_.out (by kernel_rfl)) (fun _ _ _ h => h) (Or.inr ⟨by rfl, rfl⟩) ?_ ?_
              rotate_left
              · simp only [Act.put, List.setIfInBounds_toArray, List.set_cons_zero, List.set_cons_succ, i64_w, i32_w]
                rfl
              refine pure_ (i := 19) (N := some 131) (v := ?_) (a' := ?_) #[true, true, true, true, true, true, true, true, true, true, true, true, true, true, true, true, true, true, true, true] rfl rfl (any_of HT_.out (by kernel_rfl)) (fun _ _ _ h => h) (Or.inl ⟨by rfl, ?_⟩) ?_ ?_
              rotate_left
              · intro w'
                go_simp
                with_reducible rfl
              rotate_left
              · simp only [Act.put, List.setIfInBounds_toArray, List.set_cons_zero, List.set_cons_succ, i64_w, i32_w]
                rfl
              refine done_ (done_of HT_.out (by kernel_rfl)) ?_
              go_wp2
              go_roundg k2
              case measure => omega
              case rel => exact ⟨x + 1, b, by first | rfl | rw [hx1], by first | rfl | rw [hx1], ⟨by have := HX.out; omega, by have := HX.out; have := HX0.out; omega⟩, ⟨by have h_ := HBF.out; rw [bestF, es] at h_; exact h_⟩, HS⟩
            · have hcg : wr.drew.cell? ⟨gg, x.toNat, none⟩ = some (.bool false) := by rw [show false = rdOf false gn x by revert hg; cases rdOf false gn x <;> simp]; exact HGC.out
              have HG := Aside0.mk hg
              clear hg HGC
              by_cases hb0 : b < 0
              · have db : decide (b < 0) = true := decide_eq_true hb0
                have es : (if rdOf false gn x = true then b else pickB ls1 x b) = x := by rw [if_neg HG.out]; unfold pickB; rw [if_pos hb0]
                clear hb0
                refine start_ (n := 20) (S := fun w' => w'.cell? ⟨gg, x.toNat, none⟩ = some (.bool false)) (ds := []) #[false, false, false, false, false, false, false, false, false, false, false, false, false, false, false, false, false, false, false, false] (by kernel_rfl) rfl rfl (hcg) (fun hHeld => ?_); refine with_tabW spec_l9M_seek.tab26 spec_l9M_seek.bits26 (fun HT_ HW_ => ?_)
                generalize wr.drew = w5 at HS hcg hHeld ⊢
                refine pure_ (i := 0) (N := some 112) (v := ?_) (a' := ?_) #[true, false, false, false, false, false, false, false, false, false, false, false, false, false, false, false, false, false, false, false] rfl rfl (any_of HT_.out (by kernel_rfl)) (fun _ _ _ h => h) (Or.inl ⟨by rfl, ?_⟩) ?_ ?_
                rotate_left
                · intro w'
                  go_simp
                  with_reducible rfl
                rotate_left
                · simp only [Act.put, List.setIfInBounds_toArray, List.set_cons_zero, List.set_cons_succ, i64_w, i32_w]
                  rfl
                refine pure_ (i := 1) (N := some 113) (v := ?_) (a' := ?_) #[true, true, false, false, false, false, false, false, false, false, false, false, false, false, false, false, false, false, false, false] rfl rfl (any_of HT_.out (by kernel_rfl)) (fun _ _ _ h => h) (Or.inl ⟨by rfl, ?_⟩) ?_ ?_
                rotate_left
                · intro w'
                  go_simp
                  with_reducible rfl
                rotate_left
                · simp only [Act.put, List.setIfInBounds_toArray, List.set_cons_zero, List.set_cons_succ, i64_w, i32_w]
                  rfl
                refine pure_ (i := 2) (N := some 114) (v := ?_) (a' := ?_) #[true, true, true, false, false, false, false, false, false, false, false, false, false, false, false, false, false, false, false, false] rfl rfl (any_of HT_.out (by kernel_rfl)) (fun _ _ _ h => h) (Or.inl ⟨by rfl, ?_⟩) ?_ ?_
                rotate_left
                · intro w'
                  go_simp
                  with_reducible rfl
                rotate_left
                · simp only [Act.put, List.setIfInBounds_toArray, List.set_cons_zero, List.set_cons_succ, i64_w, i32_w]
                  rfl
                refine take_ (i := 3) (N := some 115) (v := ?_) (a' := ?_) #[true, true, true, true, false, false, false, false, false, false, false, false, false, false, false, false, false, false, false, false] rfl rfl (take_ofW HT_.out HW_.out (by kernel_rfl)) (fun _ _ _ h => h) (Or.inl ⟨by rfl, ?_⟩) hHeld ?_ ?_
                rotate_left
                · intro w' s0
                  go_simp
                  with_reducible rfl
                rotate_left
                · simp only [Act.put, List.setIfInBounds_toArray, List.set_cons_zero, List.set_cons_succ, i64_w, i32_w]
                  rfl
                refine pure_ (i := 4) (N := some 116) (v := ?_) (a' := ?_) #[true, true, true, true, true, false, false, false, false, false, false, false, false, false, false, false, false, false, false, false] rfl rfl (any_of HT_.out (by kernel_rfl)) (fun _ _ _ h => h) (Or.inl ⟨by rfl, ?_⟩) ?_ ?_
                rotate_left
                · intro w'
                  go_simp
                  with_reducible rfl
                rotate_left
                · simp only [Act.put, List.setIfInBounds_toArray, List.set_cons_zero, List.set_cons_succ, i64_w, i32_w]
                  rfl
                refine pure_ (i := 5) (N := some 117) (v := ?_) (a' := ?_) #[true, true, true, true, true, true, false, false, false, false, false, false, false, false, false, false, false, false, false, false] rfl rfl (any_of HT_.out (by kernel_rfl)) (fun _ _ _ h => h) (Or.inl ⟨by rfl, ?_⟩) ?_ ?_
                rotate_left
                · intro w'
                  go_simp
                  with_reducible rfl
                rotate_left
                · simp only [Act.put, List.setIfInBounds_toArray, List.set_cons_zero, List.set_cons_succ, i64_w, i32_w]
                  rfl
                refine pure_ (i := 6) (N := some 118) (v := ?_) (a' := ?_) #[true, true, true, true, true, true, true, false, false, false, false, false, false, false, false, false, false, false, false, false] rfl rfl (any_of HT_.out (by kernel_rfl)) (fun _ _ _ h => h) (Or.inl ⟨by rfl, ?_⟩) ?_ ?_
                rotate_left
                · intro w'
                  go_simp
                  with_reducible rfl
                rotate_left
                · simp only [Act.put, List.setIfInBounds_toArray, List.set_cons_zero, List.set_cons_succ, i64_w, i32_w]
                  rfl
                refine pure_ (i := 7) (N := some 119) (v := ?_) (a' := ?_) #[true, true, true, true, true, true, true, true, false, false, false, false, false, false, false, false, false, false, false, false] rfl rfl (any_of HT_.out (by kernel_rfl)) (fun _ _ _ h => h) (Or.inl ⟨by rfl, ?_⟩) ?_ ?_
                rotate_left
                · intro w'
                  go_simp
                  with_reducible rfl
                rotate_left
                · simp only [Act.put, List.setIfInBounds_toArray, List.set_cons_zero, List.set_cons_succ, i64_w, i32_w]
                  rfl
                refine pure_ (i := 8) (N := some 120) (v := ?_) (a' := ?_) #[true, true, true, true, true, true, true, true, true, false, false, false, false, false, false, false, false, false, false, false] rfl rfl (any_of HT_.out (by kernel_rfl)) (fun _ _ _ h => h) (Or.inl ⟨by rfl, ?_⟩) ?_ ?_
                rotate_left
                · intro w'
                  go_simp
                  with_reducible rfl
                rotate_left
                · simp only [Act.put, List.setIfInBounds_toArray, List.set_cons_zero, List.set_cons_succ, i64_w, i32_w]
                  rfl
                refine pure_ (i := 9) (N := some 121) (v := undef) (a' := ?_) #[true, true, true, true, true, true, true, true, true, true, false, false, false, false, false, false, false, false, false, false] rfl rfl (any_of HT_.out (by kernel_rfl)) (fun _ _ _ h => h) (Or.inr ⟨by rfl, rfl⟩) ?_ ?_
                rotate_left
                · simp only [Act.put, List.setIfInBounds_toArray, List.set_cons_zero, List.set_cons_succ, i64_w, i32_w]
                  rfl
                refine pure_ (i := 10) (N := some 122) (v := undef) (a' := ?_) #[true, true, true, true, true, true, true, true, true, true, true, false, false, false, false, false, false, false, false, false] rfl rfl (any_of HT_.out (by kernel_rfl)) (fun _ _ _ h => h) (Or.inr ⟨by rfl, rfl⟩) ?_ ?_
                rotate_left
                · simp only [Act.put, List.setIfInBounds_toArray, List.set_cons_zero, List.set_cons_succ, i64_w, i32_w]
                  rfl
                refine pure_ (i := 11) (N := some 123) (v := undef) (a' := ?_) #[true, true, true, true, true, true, true, true, true, true, true, true, false, false, false, false, false, false, false, false] rfl rfl (any_of HT_.out (by kernel_rfl)) (fun _ _ _ h => h) (Or.inr ⟨by rfl, rfl⟩) ?_ ?_
                rotate_left
                · simp only [Act.put, List.setIfInBounds_toArray, List.set_cons_zero, List.set_cons_succ, i64_w, i32_w]
                  rfl
                refine pure_ (i := 12) (N := some 124) (v := undef) (a' := ?_) #[true, true, true, true, true, true, true, true, true, true, true, true, true, false, false, false, false, false, false, false] rfl rfl (any_of HT_.out (by kernel_rfl)) (fun _ _ _ h => h) (Or.inr ⟨by rfl, rfl⟩) ?_ ?_
                rotate_left
                · simp only [Act.put, List.setIfInBounds_toArray, List.set_cons_zero, List.set_cons_succ, i64_w, i32_w]
                  rfl
                refine pure_ (i := 13) (N := some 125) (v := undef) (a' := ?_) #[true, true, true, true, true, true, true, true, true, true, true, true, true, true, false, false, false, false, false, false] rfl rfl (any_of HT_.out (by kernel_rfl)) (fun _ _ _ h => h) (Or.inr ⟨by rfl, rfl⟩) ?_ ?_
                rotate_left
                · simp only [Act.put, List.setIfInBounds_toArray, List.set_cons_zero, List.set_cons_succ, i64_w, i32_w]
                  rfl
                refine pure_ (i := 14) (N := some 126) (v := undef) (a' := ?_) #[true, true, true, true, true, true, true, true, true, true, true, true, true, true, true, false, false, false, false, false] rfl rfl (any_of HT_.out (by kernel_rfl)) (fun _ _ _ h => h) (Or.inr ⟨by rfl, rfl⟩) ?_ ?_
                rotate_left
                · simp only [Act.put, List.setIfInBounds_toArray, List.set_cons_zero, List.set_cons_succ, i64_w, i32_w]
                  rfl
                refine pure_ (i := 15) (N := some 127) (v := undef) (a' := ?_) #[true, true, true, true, true, true, true, true, true, true, true, true, true, true, true, true, false, false, false, false] rfl rfl (any_of HT_.out (by kernel_rfl)) (fun _ _ _ h => h) (Or.inr ⟨by rfl, rfl⟩) ?_ ?_
                rotate_left
                · simp only [Act.put, List.setIfInBounds_toArray, List.set_cons_zero, List.set_cons_succ, i64_w, i32_w]
                  rfl
                refine pure_ (i := 16) (N := some 128) (v := undef) (a' := ?_) #[true, true, true, true, true, true, true, true, true, true, true, true, true, true, true, true, true, false, false, false] rfl rfl (any_of HT_.out (by kernel_rfl)) (fun _ _ _ h => h) (Or.inr ⟨by rfl, rfl⟩) ?_ ?_
                rotate_left
                · simp only [Act.put, List.setIfInBounds_toArray, List.set_cons_zero, List.set_cons_succ, i64_w, i32_w]
                  rfl
                refine pure_ (i := 17) (N := some 129) (v := undef) (a' := ?_) #[true, true, true, true, true, true, true, true, true, true, true, true, true, true, true, true, true, true, false, false] rfl rfl (any_of HT_.out (by kernel_rfl)) (fun _ _ _ h => h) (Or.inr ⟨by rfl, rfl⟩) ?_ ?_
                rotate_left
                · simp only [Act.put, List.setIfInBounds_toArray, List.set_cons_zero, List.set_cons_succ, i64_w, i32_w]
                  rfl
                refine pure_ (i := 18) (N := some 130) (v := ?_) (a' := ?_) #[true, true, true, true, true, true, true, true, true, true, true, true, true, true, true, true, true, true, true, false] rfl rfl (any_of HT_.out (by kernel_rfl)) (fun _ _ _ h => h) (Or.inl ⟨by rfl, ?_⟩) ?_ ?_
                rotate_left
                · intro w'
                  go_simp
                  with_reducible rfl
                rotate_left
                · simp only [Act.put, List.setIfInBounds_toArray, List.set_cons_zero, List.set_cons_succ, i64_w, i32_w]
                  rfl
                refine pure_ (i := 19) (N := some 131) (v := ?_) (a' := ?_) #[true, true, true, true, true, true, true, true, true, true, true, true, true, true, true, true, true, true, true, true] rfl rfl (any_of HT_.out (by kernel_rfl)) (fun _ _ _ h => h) (Or.inl ⟨by rfl, ?_⟩) ?_ ?_
                rotate_left
                · intro w'
                  go_simp
                  with_reducible rfl
                rotate_left
                · simp only [Act.put, List.setIfInBounds_toArray, List.set_cons_zero, List.set_cons_succ, i64_w, i32_w]
                  rfl
                refine done_ (done_of HT_.out (by kernel_rfl)) ?_
                go_wp2
                go_roundg k2
                case measure => omega
                case rel => exact ⟨x + 1, x, by first | rfl | rw [hx1], by first | rfl | rw [hx1], ⟨by have := HX.out; omega, by have := HX.out; have := HX0.out; omega⟩, ⟨by have h_ := HBF.out; rw [bestF, es] at h_; exact h_⟩, HS⟩
              · have db : decide (b < 0) = false := decide_eq_false hb0
                have HB0 := Aside0.mk (show 0 ≤ b ∧ b < (l1.length : Int) from ⟨by omega, HX.out.2⟩)
                have pb : (0 ≤ b) = True := eq_true HB0.out.1
                have qb : (b < (l1.length : Int)) = True := eq_true HB0.out.2
                have NB := Aside0.mk (Int.not_lt.1 hb0)
                clear hb0
                have kx : wr.drew.cell? ⟨gl, x.toNat, none⟩ = some (.int .i64 (rd ls1 x)) := (HS.out.rl.cell x HX0.out.1 HX0.out.2).1
                have kb : wr.drew.cell? ⟨gl, b.toNat, none⟩ = some (.int .i64 (rd ls1 b)) := (HS.out.rl.cell b HB0.out.1 HB0.out.2).1
                by_cases hlt : rd ls1 x < rd ls1 b
                · have dlt : decide (rd ls1 x < rd ls1 b) = true := decide_eq_true hlt
                  have es : (if rdOf false gn x = true then b else pickB ls1 x b) = x := by rw [if_neg HG.out]; unfold pickB; rw [if_neg (Int.not_lt.2 NB.out), if_pos hlt]
                  clear hlt
                  refine start_ (n := 20) (S := fun w' => w'.cell? ⟨gg, x.toNat, none⟩ = some (.bool false) ∧ w'.cell? ⟨gl, x.toNat, none⟩ = some (.int .i64 (rd ls1 x)) ∧ w'.cell? ⟨gl, b.toNat, none⟩ = some (.int .i64 (rd ls1 b))) (ds := []) #[false, false, false, false, false, false, false, false, false, false, false, false, false, false, false, false, false, false, false, false] (by kernel_rfl) rfl rfl ⟨hcg, kx, kb⟩ (fun hHeld => ?_); refine with_tabW spec_l9M_seek.tab26 spec_l9M_seek.bits26 (fun HT_ HW_ => ?_)
                  generalize wr.drew = w5 at HS hcg kx kb hHeld ⊢
                  refine pure_ (i := 0) (N := some 112) (v := ?_) (a' := ?_) #[true, false, false, false, false, false, false, false, false, false, false, false, false, false, false, false, false, false, false, false] rfl rfl (any_of HT_.out (by kernel_rfl)) (fun _ _ _ h => h) (Or.inl ⟨by rfl, ?_⟩) ?_ ?_
                  rotate_left
                  · intro w'
                    go_simp
                    with_reducible rfl
                  rotate_left
                  · simp only [Act.put, List.setIfInBounds_toArray, List.set_cons_zero, List.set_cons_succ, i64_w, i32_w]
                    rfl
                  refine pure_ (i := 1) (N := some 113) (v := ?_) (a' := ?_) #[true, true, false, false, false, false, false, false, false, false, false, false, false, false, false, false, false, false, false, false] rfl rfl (any_of HT_.out (by kernel_rfl)) (fun _ _ _ h => h) (Or.inl ⟨by rfl, ?_⟩) ?_ ?_
                  rotate_left
                  · intro w'
                    go_simp
                    with_reducible rfl
                  rotate_left
                  · simp only [Act.put, List.setIfInBounds_toArray, List.set_cons_zero, List.set_cons_succ, i64_w, i32_w]
                    rfl
                  refine pure_ (i := 2) (N := some 114) (v := ?_) (a' := ?_) #[true, true, true, false, false, false, false, false, false, false, false, false, false, false, false, false, false, false, false, false] rfl rfl (any_of HT_.out (by kernel_rfl)) (fun _ _ _ h => h) (Or.inl ⟨by rfl, ?_⟩) ?_ ?_
                  rotate_left
                  · intro w'
                    go_simp
                    with_reducible rfl
                  rotate_left
                  · simp only [Act.put, List.setIfInBounds_toArray, List.set_cons_zero, List.set_cons_succ, i64_w, i32_w]
                    rfl
                  refine take_ (i := 3) (N := some 115) (v := ?_) (a' := ?_) #[true, true, true, true, false, false, false, false, false, false, false, false, false, false, false, false, false, false, false, false] rfl rfl (take_ofW HT_.out HW_.out (by kernel_rfl)) (fun _ _ _ h => h) (Or.inl ⟨by rfl, ?_⟩) hHeld ?_ ?_
                  rotate_left
                  · rintro w' ⟨s0, s1, s2⟩
                    go_simp
                    with_reducible rfl
                  rotate_left
                  · simp only [Act.put, List.setIfInBounds_toArray, List.set_cons_zero, List.set_cons_succ, i64_w, i32_w]
                    rfl
                  refine pure_ (i := 4) (N := some 116) (v := ?_) (a' := ?_) #[true, true, true, true, true, false, false, false, false, false, false, false, false, false, false, false, false, false, false, false] rfl rfl (any_of HT_.out (by kernel_rfl)) (fun _ _ _ h => h) (Or.inl ⟨by rfl, ?_⟩) ?_ ?_
                  rotate_left
                  · intro w'
                    go_simp
                    with_reducible rfl
                  rotate_left
                  · simp only [Act.put, List.setIfInBounds_toArray, List.set_cons_zero, List.set_cons_succ, i64_w, i32_w]
                    rfl
                  refine pure_ (i := 5) (N := some 117) (v := ?_) (a' := ?_) #[true, true, true, true, true, true, false, false, false, false, false, false, false, false, false, false, false, false, false, false] rfl rfl (any_of HT_.out (by kernel_rfl)) (fun _ _ _ h => h) (Or.inl ⟨by rfl, ?_⟩) ?_ ?_
                  rotate_left
                  · intro w'
                    go_simp
                    with_reducible rfl
                  rotate_left
                  · simp only [Act.put, List.setIfInBounds_toArray, List.set_cons_zero, List.set_cons_succ, i64_w, i32_w]
                    rfl
                  refine pure_ (i := 6) (N := some 118) (v := ?_) (a' := ?_) #[true, true, true, true, true, true, true, false, false, false, false, false, false, false, false, false, false, false, false, false] rfl rfl (any_of HT_.out (by kernel_rfl)) (fun _ _ _ h => h) (Or.inl ⟨by rfl, ?_⟩) ?_ ?_
                  rotate_left
                  · intro w'
                    go_simp
                    with_reducible rfl
                  rotate_left
                  · simp only [Act.put, List.setIfInBounds_toArray, List.set_cons_zero, List.set_cons_succ, i64_w, i32_w]
                    rfl
                  refine pure_ (i := 7) (N := some 119) (v := ?_) (a' := ?_) #[true, true, true, true, true, true, true, true, false, false, false, false, false, false, false, false, false, false, false, false] rfl rfl (any_of HT_.out (by kernel_rfl)) (fun _ _ _ h => h) (Or.inl ⟨by rfl, ?_⟩) ?_ ?_
                  rotate_left
                  · intro w'
                    go_simp
                    with_reducible rfl
                  rotate_left
                  · simp only [Act.put, List.setIfInBounds_toArray, List.set_cons_zero, List.set_cons_succ, i64_w, i32_w]
                    rfl
                  refine pure_ (i := 8) (N := some 120) (v := ?_) (a' := ?_) #[true, true, true, true, true, true, true, true, true, false, false, false, false, false, false, false, false, false, false, false] rfl rfl (any_of HT_.out (by kernel_rfl)) (fun _ _ _ h => h) (Or.inl ⟨by rfl, ?_⟩) ?_ ?_
                  rotate_left
                  · intro w'
                    go_simp
                    with_reducible rfl
                  rotate_left
                  · simp only [Act.put, List.setIfInBounds_toArray, List.set_cons_zero, List.set_cons_succ, i64_w, i32_w]
                    rfl
                  refine pure_ (i := 9) (N := some 121) (v := ?_) (a' := ?_) #[true, true, true, true, true, true, true, true, true, true, false, false, false, false, false, false, false, false, false, false] rfl rfl (any_of HT_.out (by kernel_rfl)) (fun _ _ _ h => h) (Or.inl ⟨by rfl, ?_⟩) ?_ ?_
                  rotate_left
                  · intro w'
                    go_simp
                    with_reducible rfl
                  rotate_left
                  · simp only [Act.put, List.setIfInBounds_toArray, List.set_cons_zero, List.set_cons_succ, i64_w, i32_w]
                    rfl
                  refine pure_ (i := 10) (N := some 122) (v := ?_) (a' := ?_) #[true, true, true, true, true, true, true, true, true, true, true, false, false, false, false, false, false, false, false, false] rfl rfl (any_of HT_.out (by kernel_rfl)) (fun _ _ _ h => h) (Or.inl ⟨by rfl, ?_⟩) ?_ ?_
                  rotate_left
                  · intro w'
                    go_simp
                    with_reducible rfl
                  rotate_left
                  · simp only [Act.put, List.setIfInBounds_toArray, List.set_cons_zero, List.set_cons_succ, i64_w, i32_w]
                    rfl
                  refine pure_ (i := 11) (N := some 123) (v := ?_) (a' := ?_) #[true, true, true, true, true, true, true, true, true, true, true, true, false, false, false, false, false, false, false, false] rfl rfl (any_of HT_.out (by kernel_rfl)) (fun _ _ _ h => h) (Or.inl ⟨by rfl, ?_⟩) ?_ ?_
                  rotate_left
                  · intro w'
                    go_simp
                    with_reducible rfl
                  rotate_left
                  · simp only [Act.put, List.setIfInBounds_toArray, List.set_cons_zero, List.set_cons_succ, i64_w, i32_w]
                    rfl
                  refine pure_ (i := 13) (N := some 125) (v := ?_) (a' := ?_) #[true, true, true, true, true, true, true, true, true, true, true, true, false, true, false, false, false, false, false, false] rfl rfl (any_of HT_.out (by kernel_rfl)) (fun _ _ _ h => h) (Or.inl ⟨by rfl, ?_⟩) ?_ ?_
                  rotate_left
                  · intro w'
                    go_simp
                    with_reducible rfl
                  rotate_left
                  · simp only [Act.put, List.setIfInBounds_toArray, List.set_cons_zero, List.set_cons_succ, i64_w, i32_w]
                    rfl
                  refine pure_ (i := 14) (N := some 126) (v := ?_) (a' := ?_) #[true, true, true, true, true, true, true, true, true, true, true, true, false, true, true, false, false, false, false, false] rfl rfl (any_of HT_.out (by kernel_rfl)) (fun _ _ _ h => h) (Or.inl ⟨by rfl, ?_⟩) ?_ ?_
                  rotate_left
                  · intro w'
                    go_simp
                    with_reducible rfl
                  rotate_left
                  · simp only [Act.put, List.setIfInBounds_toArray, List.set_cons_zero, List.set_cons_succ, i64_w, i32_w]
                    rfl
                  refine pure_ (i := 15) (N := some 127) (v := ?_) (a' := ?_) #[true, true, true, true, true, true, true, true, true, true, true, true, false, true, true, true, false, false, false, false] rfl rfl (any_of HT_.out (by kernel_rfl)) (fun _ _ _ h => h) (Or.inl ⟨by rfl, ?_⟩) ?_ ?_
                  rotate_left
                  · intro w'
                    go_simp
                    with_reducible rfl
                  rotate_left
                  · simp only [Act.put, List.setIfInBounds_toArray, List.set_cons_zero, List.set_cons_succ, i64_w, i32_w]
                    rfl
                  refine take_ (i := 12) (N := some 124) (v := ?_) (a' := ?_) #[true, true, true, true, true, true, true, true, true, true, true, true, true, true, true, true, false, false, false, false] rfl rfl (take_ofW HT_.out HW_.out (by kernel_rfl)) (fun _ _ _ h => h) (Or.inl ⟨by rfl, ?_⟩) hHeld ?_ ?_
                  rotate_left
                  · rintro w' ⟨s0, s1, s2⟩
                    go_simp
                    with_reducible rfl
                  rotate_left
                  · simp only [Act.put, List.setIfInBounds_toArray, List.set_cons_zero, List.set_cons_succ, i64_w, i32_w]
                    rfl
                  refine take_ (i := 16) (N := some 128) (v := ?_) (a' := ?_) #[true, true, true, true, true, true, true, true, true, true, true, true, true, true, true, true, true, false, false, false] rfl rfl (take_ofW HT_.out HW_.out (by kernel_rfl)) (fun _ _ _ h => h) (Or.inl ⟨by rfl, ?_⟩) hHeld ?_ ?_
                  rotate_left
                  · rintro w' ⟨s0, s1, s2⟩
                    go_simp
                    with_reducible rfl
                  rotate_left
                  · simp only [Act.put, List.setIfInBounds_toArray, List.set_cons_zero, List.set_cons_succ, i64_w, i32_w]
                    rfl
                  refine pure_ (i := 17) (N := some 129) (v := ?_) (a' := ?_) #[true, true, true, true, true, true, true, true, true, true, true, true, true, true, true, true, true, true, false, false] rfl rfl (any_of HT_.out (by kernel_rfl)) (fun _ _ _ h => h) (Or.inl ⟨by rfl, ?_⟩) ?_ ?_
                  rotate_left
                  · intro w'
                    go_simp
                    with_reducible rfl
                  rotate_left
                  · simp only [Act.put, List.setIfInBounds_toArray, List.set_cons_zero, List.set_cons_succ, i64_w, i32_w]
                    rfl
                  refine pure_ (i := 18) (N := some 130) (v := ?_) (a' := ?_) #[true, true, true, true, true, true, true, true, true, true, true, true, true, true, true, true, true, true, true, false] rfl rfl (any_of HT_.out (by kernel_rfl)) (fun _ _ _ h => h) (Or.inl ⟨by rfl, ?_⟩) ?_ ?_
                  rotate_left
                  · intro w'
                    go_simp
                    with_reducible rfl
                  rotate_left
                  · simp only [Act.put, List.setIfInBounds_toArray, List.set_cons_zero, List.set_cons_succ, i64_w, i32_w]
                    rfl
                  refine pure_ (i := 19) (N := some 131) (v := ?_) (a' := ?_) #[true, true, true, true, true, true, true, true, true, true, true, true, true, true, true, true, true, true, true, true] rfl rfl (any_of HT_.out (by kernel_rfl)) (fun _ _ _ h => h) (Or.inl ⟨by rfl, ?_⟩) ?_ ?_
                  rotate_left
                  · intro w'
                    go_simp
                    with_reducible rfl
                  rotate_left
                  · simp only [Act.put, List.setIfInBounds_toArray, List.set_cons_zero, List.set_cons_succ, i64_w, i32_w]
                    rfl
                  refine done_ (done_of HT_.out (by kernel_rfl)) ?_
                  go_wp2
                  go_roundg k2
                  case measure => omega
                  case rel => exact ⟨x + 1, x, by first | rfl | rw [hx1], by first | rfl | rw [hx1], ⟨by have := HX.out; omega, by have := HX.out; have := HX0.out; omega⟩, ⟨by have h_ := HBF.out; rw [bestF, es] at h_; exact h_⟩, HS⟩
                · have dlt : decide (rd ls1 x < rd ls1 b) = false := decide_eq_false hlt
                  have es : (if rdOf false gn x = true then b else pickB ls1 x b) = b := by rw [if_neg HG.out]; unfold pickB; rw [if_neg (Int.not_lt.2 NB.out), if_neg hlt]
                  clear hlt
                  refine start_ (n := 20) (S := fun w' => w'.cell? ⟨gg, x.toNat, none⟩ = some (.bool false) ∧ w'.cell? ⟨gl, x.toNat, none⟩ = some (.int .i64 (rd ls1 x)) ∧ w'.cell? ⟨gl, b.toNat, none⟩ = some (.int .i64 (rd ls1 b))) (ds := []) #[false, false, false, false, false, false, false, false, false, false, false, false, false, false, false, false, false, false, false, false] (by kernel_rfl) rfl rfl ⟨hcg, kx, kb⟩ (fun hHeld => ?_); refine with_tabW spec_l9M_seek.tab26 spec_l9M_seek.bits26 (fun HT_ HW_ => ?_)
                  generalize wr.drew = w5 at HS hcg kx kb hHeld ⊢
                  refine pure_ (i := 0) (N := some 112) (v := ?_) (a' := ?_) #[true, false, false, false, false, false, false, false, false, false, false, false, false, false, false, false, false, false, false, false] rfl rfl (any_of HT_.out (by kernel_rfl)) (fun _ _ _ h => h) (Or.inl ⟨by rfl, ?_⟩) ?_ ?_
                  rotate_left
                  · intro w'
                    go_simp
                    with_reducible rfl
                  rotate_left
                  · simp only [Act.put, List.setIfInBounds_toArray, List.set_cons_zero, List.set_cons_succ, i64_w, i32_w]
                    rfl
                  refine pure_ (i := 1) (N := some 113) (v := ?_) (a' := ?_) #[true, true, false, false, false, false, false, false, false, false, false, false, false, false, false, false, false, false, false, false] rfl rfl (any_of HT_.out (by kernel_rfl)) (fun _ _ _ h => h) (Or.inl ⟨by rfl, ?_⟩) ?_ ?_
                  rotate_left
                  · intro w'
                    go_simp
                    with_reducible rfl
                  rotate_left
                  · simp only [Act.put, List.setIfInBounds_toArray, List.set_cons_zero, List.set_cons_succ, i64_w, i32_w]
                    rfl
                  refine pure_ (i := 2) (N := some 114) (v := ?_) (a' := ?_) #[true, true, true, false, false, false, false, false, false, false, false, false, false, false, false, false, false, false, false, false] rfl rfl (any_of HT_.out (by kernel_rfl)) (fun _ _ _ h => h) (Or.inl ⟨by rfl, ?_⟩) ?_ ?_
                  rotate_left
                  · intro w'
                    go_simp
                    with_reducible rfl
                  rotate_left
                  · simp only [Act.put, List.setIfInBounds_toArray, List.set_cons_zero, List.set_cons_succ, i64_w, i32_w]
                    rfl
                  refine take_ (i := 3) (N := some 115) (v := ?_) (a' := ?_) #[true, true, true, true, false, false, false, false, false, false, false, false, false, false, false, false, false, false, false, false] rfl rfl (take_ofW HT_.out HW_.out (by kernel_rfl)) (fun _ _ _ h => h) (Or.inl ⟨by rfl, ?_⟩) hHeld ?_ ?_
                  rotate_left
                  · rintro w' ⟨s0, s1, s2⟩
                    go_simp
                    with_reducible rfl
                  rotate_left
                  · simp only [Act.put, List.setIfInBounds_toArray, List.set_cons_zero, List.set_cons_succ, i64_w, i32_w]
                    rfl
                  refine pure_ (i := 4) (N := some 116) (v := ?_) (a' := ?_) #[true, true, true, true, true, false, false, false, false, false, false, false, false, false, false, false, false, false, false, false] rfl rfl (any_of HT_.out (by kernel_rfl)) (fun _ _ _ h => h) (Or.inl ⟨by rfl, ?_⟩) ?_ ?_
                  rotate_left
                  · intro w'
                    go_simp
                    with_reducible rfl
                  rotate_left
                  · simp only [Act.put, List.setIfInBounds_toArray, List.set_cons_zero, List.set_cons_succ, i64_w, i32_w]
                    rfl
                  refine pure_ (i := 5) (N := some 117) (v := ?_) (a' := ?_) #[true, true, true, true, true, true, false, false, false, false, false, false, false, false, false, false, false, false, false, false] rfl rfl (any_of HT_.out (by kernel_rfl)) (fun _ _ _ h => h) (Or.inl ⟨by rfl, ?_⟩) ?_ ?_
                  rotate_left
                  · intro w'
                    go_simp
                    with_reducible rfl
                  rotate_left
                  · simp only [Act.put, List.setIfInBounds_toArray, List.set_cons_zero, List.set_cons_succ, i64_w, i32_w]
                    rfl
                  refine pure_ (i := 6) (N := some 118) (v := ?_) (a' := ?_) #[true, true, true, true, true, true, true, false, false, false, false, false, false, false, false, false, false, false, false, false] rfl rfl (any_of HT_.out (by kernel_rfl)) (fun _ _ _ h => h) (Or.inl ⟨by rfl, ?_⟩) ?_ ?_
                  rotate_left
                  · intro w'
                    go_simp
                    with_reducible rfl
                  rotate_left
                  · simp only [Act.put, List.setIfInBounds_toArray, List.set_cons_zero, List.set_cons_succ, i64_w, i32_w]
                    rfl
                  refine pure_ (i := 7) (N := some 119) (v := ?_) (a' := ?_) #[true, true, true, true, true, true, true, true, false, false, false, false, false, false, false, false, false, false, false, false] rfl rfl (any_of HT_.out (by kernel_rfl)) (fun _ _ _ h => h) (Or.inl ⟨by rfl, ?_⟩) ?_ ?_
                  rotate_left
                  · intro w'
                    go_simp
                    with_reducible rfl
                  rotate_left
                  · simp only [Act.put, List.setIfInBounds_toArray, List.set_cons_zero, List.set_cons_succ, i64_w, i32_w]
                    rfl
                  refine pure_ (i := 8) (N := some 120) (v := ?_) (a' := ?_) #[true, true, true, true, true, true, true, true, true, false, false, false, false, false, false, false, false, false, false, false] rfl rfl (any_of HT_.out (by kernel_rfl)) (fun _ _ _ h => h) (Or.inl ⟨by rfl, ?_⟩) ?_ ?_
                  rotate_left
                  · intro w'
                    go_simp
                    with_reducible rfl
                  rotate_left
                  · simp only [Act.put, List.setIfInBounds_toArray, List.set_cons_zero, List.set_cons_succ, i64_w, i32_w]
                    rfl
                  refine pure_ (i := 9) (N := some 121) (v := ?_) (a' := ?_) #[true, true, true, true, true, true, true, true, true, true, false, false, false, false, false, false, false, false, false, false] rfl rfl (any_of HT_.out (by kernel_rfl)) (fun _ _ _ h => h) (Or.inl ⟨by rfl, ?_⟩) ?_ ?_
                  rotate_left
                  · intro w'
                    go_simp
                    with_reducible rfl
                  rotate_left
                  · simp only [Act.put, List.setIfInBounds_toArray, List.set_cons_zero, List.set_cons_succ, i64_w, i32_w]
                    rfl
                  refine pure_ (i := 10) (N := some 122) (v := ?_) (a' := ?_) #[true, true, true, true, true, true, true, true, true, true, true, false, false, false, false, false, false, false, false, false] rfl rfl (any_of HT_.out (by kernel_rfl)) (fun _ _ _ h => h) (Or.inl ⟨by rfl, ?_⟩) ?_ ?_
                  rotate_left
                  · intro w'
                    go_simp
                    with_reducible rfl
                  rotate_left
                  · simp only [Act.put, List.setIfInBounds_toArray, List.set_cons_zero, List.set_cons_succ, i64_w, i32_w]
                    rfl
                  refine pure_ (i := 11) (N := some 123) (v := ?_) (a' := ?_) #[true, true, true, true, true, true, true, true, true, true, true, true, false, false, false, false, false, false, false, false] rfl rfl (any_of HT_.out (by kernel_rfl)) (fun _ _ _ h => h) (Or.inl ⟨by rfl, ?_⟩) ?_ ?_
                  rotate_left
                  · intro w'
                    go_simp
                    with_reducible rfl
                  rotate_left
                  · simp only [Act.put, List.setIfInBounds_toArray, List.set_cons_zero, List.set_cons_succ, i64_w, i32_w]
                    rfl
                  refine pure_ (i := 13) (N := some 125) (v := ?_) (a' := ?_) #[true, true, true, true, true, true, true, true, true, true, true, true, false, true, false, false, false, false, false, false] rfl rfl (any_of HT_.out (by kernel_rfl)) (fun _ _ _ h => h) (Or.inl ⟨by rfl, ?_⟩) ?_ ?_
                  rotate_left
                  · intro w'
                    go_simp
                    with_reducible rfl
                  rotate_left
                  · simp only [Act.put, List.setIfInBounds_toArray, List.set_cons_zero, List.set_cons_succ, i64_w, i32_w]
                    rfl
                  refine pure_ (i := 14) (N := some 126) (v := ?_) (a' := ?_) #[true, true, true, true, true, true, true, true, true, true, true, true, false, true, true, false, false, false, false, false] rfl rfl (any_of HT_.out (by kernel_rfl)) (fun _ _ _ h => h) (Or.inl ⟨by rfl, ?_⟩) ?_ ?_
                  rotate_left
                  · intro w'
                    go_simp
                    with_reducible rfl
                  rotate_left
                  · simp only [Act.put, List.setIfInBounds_toArray, List.set_cons_zero, List.set_cons_succ, i64_w, i32_w]
                    rfl
                  refine pure_ (i := 15) (N := some 127) (v := ?_) (a' := ?_) #[true, true, true, true, true, true, true, true, true, true, true, true, false, true, true, true, false, false, false, false] rfl rfl (any_of HT_.out (by kernel_rfl)) (fun _ _ _ h => h) (Or.inl ⟨by rfl, ?_⟩) ?_ ?_
                  rotate_left
                  · intro w'
                    go_simp
                    with_reducible rfl
                  rotate_left
                  · simp only [Act.put, List.setIfInBounds_toArray, List.set_cons_zero, List.set_cons_succ, i64_w, i32_w]
                    rfl
                  refine take_ (i := 12) (N := some 124) (v := ?_) (a' := ?_) #[true, true, true, true, true, true, true, true, true, true, true, true, true, true, true, true, false, false, false, false] rfl rfl (take_ofW HT_.out HW_.out (by kernel_rfl)) (fun _ _ _ h => h) (Or.inl ⟨by rfl, ?_⟩) hHeld ?_ ?_
                  rotate_left
                  · rintro w' ⟨s0, s1, s2⟩
                    go_simp
                    with_reducible rfl
                  rotate_left
                  · simp only [Act.put, List.setIfInBounds_toArray, List.set_cons_zero, List.set_cons_succ, i64_w, i32_w]
                    rfl
                  refine take_ (i := 16) (N := some 128) (v := ?_) (a' := ?_) #[true, true, true, true, true, true, true, true, true, true, true, true, true, true, true, true, true, false, false, false] rfl rfl (take_ofW HT_.out HW_.out (by kernel_rfl)) (fun _ _ _ h => h) (Or.inl ⟨by rfl, ?_⟩) hHeld ?_ ?_
                  rotate_left
                  · rintro w' ⟨s0, s1, s2⟩
                    go_simp
                    with_reducible rfl
                  rotate_left
                  · simp only [Act.put, List.setIfInBounds_toArray, List.set_cons_zero, List.set_cons_succ, i64_w, i32_w]
                    rfl
                  refine pure_ (i := 17) (N := some 129) (v := ?_) (a' := ?_) #[true, true, true, true, true, true, true, true, true, true, true, true, true, true, true, true, true, true, false, false] rfl rfl (any_of HT_.out (by kernel_rfl)) (fun _ _ _ h => h) (Or.inl ⟨by rfl, ?_⟩) ?_ ?_
                  rotate_left
                  · intro w'
                    go_simp
                    with_reducible rfl
                  rotate_left
                  · simp only [Act.put, List.setIfInBounds_toArray, List.set_cons_zero, List.set_cons_succ, i64_w, i32_w]
                    rfl
                  refine pure_ (i := 18) (N := some 130) (v := ?_) (a' := ?_) #[true, true, true, true, true, true, true, true, true, true, true, true, true, true, true, true, true, true, true, false] rfl rfl (any_of HT_.out (by kernel_rfl)) (fun _ _ _ h => h) (Or.inl ⟨by rfl, ?_⟩) ?_ ?_
                  rotate_left
                  · intro w'
                    go_simp
                    with_reducible rfl
                  rotate_left
                  · simp only [Act.put, List.setIfInBounds_toArray, List.set_cons_zero, List.set_cons_succ, i64_w, i32_w]
                    rfl
                  refine pure_ (i := 19) (N := some 131) (v := ?_) (a' := ?_) #[true, true, true, true, true, true, true, true, true, true, true, true, true, true, true, true, true, true, true, true] rfl rfl (any_of HT_.out (by kernel_rfl)) (fun _ _ _ h => h) (Or.inl ⟨by rfl, ?_⟩) ?_ ?_
                  rotate_left
                  · intro w'
                    go_simp
                    with_reducible rfl
                  rotate_left
                  · simp only [Act.put, List.setIfInBounds_toArray, List.set_cons_zero, List.set_cons_succ, i64_w, i32_w]
                    rfl
                  refine done_ (done_of HT_.out (by kernel_rfl)) ?_
                  go_wp2
                  go_roundg k2
                  case measure => omega
                  case rel => exact ⟨x + 1, b, by first | rfl | rw [hx1], by first | rfl | rw [hx1], ⟨by have := HX.out; omega, by have := HX.out; have := HX0.out; omega⟩, ⟨by have h_ := HBF.out; rw [bestF, es] at h_; exact h_⟩, HS⟩
           | zero =>
            have dx : decide (x < (l1.length : Int)) = false := decide_eq_false (by have := HX.out; omega)
            have e : b = bb := HBF.out
            subst e
            clear HX HBF
            have pb : (0 ≤ b) = True := eq_true HBB.out.1
            have qb : (b < (l1.length : Int)) = True := eq_true HBB.out.2
            have pd : (0 ≤ a3) = True := eq_true HL.out.2.1
            have qd : (a3 < (l1.length : Int)) = True := eq_true HL.out.2.2
            have kb : wr.cell? ⟨gl, b.toNat, none⟩ = some (.int .i64 by_) := by rw [← HYF1.out]; exact (HS.out.rl.cell b HBB.out.1 HBB.out.2).1
            have k1_ : wr.cell? ⟨gb, 1, none⟩ = some (.slice (some ⟨gL, 0, none⟩) l1.length cL) := (blk_cell HS.out.bk 1).trans rfl
            have kL : wr.cell? ⟨gL, a3.toNat, none⟩ = some (.int .i64 (rd L a3)) := (HS.out.rL.cell a3 HL.out.2.1 HL.out.2.2).1
            have fL : wr.frozen? ⟨gL, a3.toNat, none⟩ = false := (HS.out.rL.cell a3 HL.out.2.1 HL.out.2.2).2
            go_wp2_with (first | ((with_reducible refine gate_store (t := 3) (p := 147) rfl ?_); refine store_event (t := 3) (p := 147) (v := ?vo_6) (w1 := (wr.setCell ⟨gL, a3.toNat, none⟩ (.int .i64 (wrap64 ((rd L a3) + by_))))) ?hg ?ho ?hn ?hr ?_; (case ho => rfl); (case hg => rfl); (case hn => rfl); (case hr => first | (go_simp; done) | (go_simp; rfl)); intro w5 hw_; have HS2 := Aside0.mk (show St w0 w P l1.length ⟨gL, cL, gB, cB, gO, cO, gl, cl, gf, cf, gg, cg, gb⟩ #[.slice A1 l1.length c1, .slice (some ⟨gL, 0, none⟩) l1.length cL, .slice (some ⟨gB, 0, none⟩) l1.length cB, .slice (some ⟨gO, 0, none⟩) l1.length cO] 82 (L.set a3.toNat (wrap64 ((rd L a3) + by_))) B l2 ls1 fr1 gn w5 by rw [hw_]; exact HS.out.sL HA.out a3 (wrap64 ((rd L a3) + by_))); clear HS; have HS := HS2; clear HS2; clear kb k1_ kL fL; clear hw_))
            go_loopg [16] l1.length (fun gk v16 w' => ∃ (x : Int) (L1 B1 ls2 : List Int), v16 = .int .i64 x ∧ Aside0 (0 ≤ x ∧ x + gk = (l1.length : Int)) ∧ Aside0 (adjF by_ gn l2 gk x (L1, B1, ls2) = A) ∧ Aside0 (St w0 w P l1.length ⟨gL, cL, gB, cB, gO, cO, gl, cl, gf, cf, gg, cg, gb⟩ #[.slice A1 l1.length c1, .slice (some ⟨gL, 0, none⟩) l1.length cL, .slice (some ⟨gB, 0, none⟩) l1.length cB, .slice (some ⟨gO, 0, none⟩) l1.length cO] 82 L1 B1 l2 ls2 fr1 gn w'))
            case atStart => exact ⟨0, _, B, ls1, rfl, ⟨⟨by omega, by omega⟩⟩, HAF1, HS⟩
            case round =>
             clear HS dx HAF1
             obtain ⟨x, L1, B1, ls2, rfl, HX, HAF, HS⟩ := hrel
             cases gk with
             | succ k3 =>
              have dx : decide (x < (l1.length : Int)) = true := decide_eq_true (by have := HX.out; omega)
              have HX0 := Aside0.mk (show 0 ≤ x ∧ x < (l1.length : Int) by have := HX.out; omega)
              have px : (0 ≤ x) = True := eq_true HX0.out.1
              have qx : (x < (l1.length : Int)) = True := eq_true HX0.out.2
              have hx1 : wrap64 (x + 1) = x + 1 := by have := HX.out; have := HL.out; unfold wrap64; omega
              by_cases hg : rdOf false gn x = true
              · have hcg : wr.cell? ⟨gg, x.toNat, none⟩ = some (.bool true) := by rw [← hg]; exact (HS.out.rg.cell x HX0.out.1 HX0.out.2).1
                have es : adjS by_ gn l2 x (L1, B1, ls2) = ((L1.set (rd l2 x).toNat (wrap64 ((rd L1 (rd l2 x)) + by_))), (B1.set x.toNat (wrap64 ((rd B1 x) - by_))), ls2) := by unfold adjS; rw [if_pos hg]
                have HOX := Aside0.mk (show 0 ≤ rd l2 x ∧ rd l2 x < (l1.length : Int) from ⟨HGN.out x HX0.out.1 HX0.out.2 hg, rd_in HOWN.out HX0.out.1 (by have := HLN.out; have := HX0.out; omega)⟩)
                clear hg
                have pq : (0 ≤ rd l2 x) = True := eq_true HOX.out.1
                have qq : (rd l2 x < (l1.length : Int)) = True := eq_true HOX.out.2
                go_wp2
                replace HS := Aside0.mk HS.out.drew
                have k1_ : wr.drew.cell? ⟨gb, 1, none⟩ = some (.slice (some ⟨gL, 0, none⟩) l1.length cL) := (blk_cell HS.out.bk 1).trans rfl
                have k3 : wr.drew.cell? ⟨gb, 3, none⟩ = some (.slice (some ⟨gO, 0, none⟩) l1.length cO) := (blk_cell HS.out.bk 3).trans rfl
                have kO : wr.drew.cell? ⟨gO, x.toNat, none⟩ = some (.int .i64 (rd l2 x)) := (HS.out.rO.cell x HX0.out.1 HX0.out.2).1
                have kL : wr.drew.cell? ⟨gL, (rd l2 x).toNat, none⟩ = some (.int .i64 (rd L1 (rd l2 x))) := (HS.out.rL.cell (rd l2 x) HOX.out.1 HOX.out.2).1
                have fL : wr.drew.frozen? ⟨gL, (rd l2 x).toNat, none⟩ = false := (HS.out.rL.cell (rd l2 x) HOX.out.1 HOX.out.2).2
                clear hcg
                refine start_ (n := 18) (S := fun w' => w'.cell? ⟨gb, 1, none⟩ = some (.slice (some ⟨gL, 0, none⟩) l1.length cL) ∧ w'.cell? ⟨gb, 3, none⟩ = some (.slice (some ⟨gO, 0, none⟩) l1.length cO) ∧ w'.cell? ⟨gO, x.toNat, none⟩ = some (.int .i64 (rd l2 x)) ∧ w'.cell? ⟨gL, (rd l2 x).toNat, none⟩ = some (.int .i64 (rd L1 (rd l2 x))) ∧ w'.frozen? ⟨gL, (rd l2 x).toNat, none⟩ = false) (ds := [17]) #[false, false, false, false, false, false, false, false, false, false, false, false, false, false, false, false, false, false] (by kernel_rfl) rfl rfl ⟨k1_, k3, kO, kL, fL⟩ (fun hHeld => ?_); refine with_tabW spec_l9M_seek.tab34 spec_l9M_seek.bits34 (fun HT_ HW_ => ?_)
                generalize wr.drew = w5 at HS k1_ k3 kO kL fL hHeld ⊢
                refine pure_ (i := 0) (N := some 157) (v := ?_) (a' := ?_) #[true, false, false, false, false, false, false, false, false, false, false, false, false, false, false, false, false, false] rfl rfl (any_of HT_.out (by kernel_rfl)) (fun _ _ _ h => h) (Or.inl ⟨by rfl, ?_⟩) ?_ ?_
                rotate_left
                · intro w'
                  go_simp
                  with_reducible rfl
                rotate_left
                · simp only [Act.put, List.setIfInBounds_toArray, List.set_cons_zero, List.set_cons_succ, i64_w, i32_w]
                  rfl
                refine pure_ (i := 1) (N := some 158) (v := ?_) (a' := ?_) #[true, true, false, false, false, false, false, false, false, false, false, false, false, false, false, false, false, false] rfl rfl (any_of HT_.out (by kernel_rfl)) (fun _ _ _ h => h) (Or.inl ⟨by rfl, ?_⟩) ?_ ?_
                rotate_left
                · intro w'
                  go_simp
                  with_reducible rfl
                rotate_left
                · simp only [Act.put, List.setIfInBounds_toArray, List.set_cons_zero, List.set_cons_succ, i64_w, i32_w]
                  rfl
                refine pure_ (i := 2) (N := some 159) (v := ?_) (a' := ?_) #[true, true, true, false, false, false, false, false, false, false, false, false, false, false, false, false, false, false] rfl rfl (any_of HT_.out (by kernel_rfl)) (fun _ _ _ h => h) (Or.inl ⟨by rfl, ?_⟩) ?_ ?_
                rotate_left
                · intro w'
                  go_simp
                  with_reducible rfl
                rotate_left
                · simp only [Act.put, List.setIfInBounds_toArray, List.set_cons_zero, List.set_cons_succ, i64_w, i32_w]
                  rfl
                refine pure_ (i := 3) (N := some 160) (v := ?_) (a' := ?_) #[true, true, true, true, false, false, false, false, false, false, false, false, false, false, false, false, false, false] rfl rfl (any_of HT_.out (by kernel_rfl)) (fun _ _ _ h => h) (Or.inl ⟨by rfl, ?_⟩) ?_ ?_
                rotate_left
                · intro w'
                  go_simp
                  with_reducible rfl
                rotate_left
                · simp only [Act.put, List.setIfInBounds_toArray, List.set_cons_zero, List.set_cons_succ, i64_w, i32_w]
                  rfl
                refine pure_ (i := 5) (N := some 162) (v := ?_) (a' := ?_) #[true, true, true, true, false, true, false, false, false, false, false, false, false, false, false, false, false, false] rfl rfl (any_of HT_.out (by kernel_rfl)) (fun _ _ _ h => h) (Or.inl ⟨by rfl, ?_⟩) ?_ ?_
                rotate_left
                · intro w'
                  go_simp
                  with_reducible rfl
                rotate_left
                · simp only [Act.put, List.setIfInBounds_toArray, List.set_cons_zero, List.set_cons_succ, i64_w, i32_w]
                  rfl
                refine pure_ (i := 6) (N := some 163) (v := ?_) (a' := ?_) #[true, true, true, true, false, true, true, false, false, false, false, false, false, false, false, false, false, false] rfl rfl (any_of HT_.out (by kernel_rfl)) (fun _ _ _ h => h) (Or.inl ⟨by rfl, ?_⟩) ?_ ?_
                rotate_left
                · intro w'
                  go_simp
                  with_reducible rfl
                rotate_left
                · simp only [Act.put, List.setIfInBounds_toArray, List.set_cons_zero, List.set_cons_succ, i64_w, i32_w]
                  rfl
                refine pure_ (i := 7) (N := some 164) (v := ?_) (a' := ?_) #[true, true, true, true, false, true, true, true, false, false, false, false, false, false, false, false, false, false] rfl rfl (any_of HT_.out (by kernel_rfl)) (fun _ _ _ h => h) (Or.inl ⟨by rfl, ?_⟩) ?_ ?_
                rotate_left
                · intro w'
                  go_simp
                  with_reducible rfl
                rotate_left
                · simp only [Act.put, List.setIfInBounds_toArray, List.set_cons_zero, List.set_cons_succ, i64_w, i32_w]
                  rfl
                refine pure_ (i := 9) (N := some 166) (v := ?_) (a' := ?_) #[true, true, true, true, false, true, true, true, false, true, false, false, false, false, false, false, false, false] rfl rfl (any_of HT_.out (by kernel_rfl)) (fun _ _ _ h => h) (Or.inl ⟨by rfl, ?_⟩) ?_ ?_
                rotate_left
                · intro w'
                  go_simp
                  with_reducible rfl
                rotate_left
                · simp only [Act.put, List.setIfInBounds_toArray, List.set_cons_zero, List.set_cons_succ, i64_w, i32_w]
                  rfl
                refine pure_ (i := 14) (N := some 171) (v := ?_) (a' := ?_) #[true, true, true, true, false, true, true, true, false, true, false, false, false, false, true, false, false, false] rfl rfl (any_of HT_.out (by kernel_rfl)) (fun _ _ _ h => h) (Or.inl ⟨by rfl, ?_⟩) ?_ ?_
                rotate_left
                · intro w'
                  go_simp
                  with_reducible rfl
                rotate_left
                · simp only [Act.put, List.setIfInBounds_toArray, List.set_cons_zero, List.set_cons_succ, i64_w, i32_w]
                  rfl
                refine take_ (i := 4) (N := some 161) (v := ?_) (a' := ?_) #[true, true, true, true, true, true, true, true, false, true, false, false, false, false, true, false, false, false] rfl rfl (take_ofW HT_.out HW_.out (by kernel_rfl)) (fun _ _ _ h => h) (Or.inl ⟨by rfl, ?_⟩) hHeld ?_ ?_
                rotate_left
                · rintro w' ⟨s0, s1, s2, s3, s4⟩
                  go_simp
                  with_reducible rfl
                rotate_left
                · simp only [Act.put, List.setIfInBounds_toArray, List.set_cons_zero, List.set_cons_succ, i64_w, i32_w]
                  rfl
                refine take_ (i := 8) (N := some 165) (v := ?_) (a' := ?_) #[true, true, true, true, true, true, true, true, true, true, false, false, false, false, true, false, false, false] rfl rfl (take_ofW HT_.out HW_.out (by kernel_rfl)) (fun _ _ _ h => h) (Or.inl ⟨by rfl, ?_⟩) hHeld ?_ ?_
                rotate_left
                · rintro w' ⟨s0, s1, s2, s3, s4⟩
                  go_simp
                  with_reducible rfl
                rotate_left
                · simp only [Act.put, List.setIfInBounds_toArray, List.set_cons_zero, List.set_cons_succ, i64_w, i32_w]
                  rfl
                refine pure_ (i := 10) (N := some 167) (v := ?_) (a' := ?_) #[true, true, true, true, true, true, true, true, true, true, true, false, false, false, true, false, false, false] rfl rfl (any_of HT_.out (by kernel_rfl)) (fun _ _ _ h => h) (Or.inl ⟨by rfl, ?_⟩) ?_ ?_
                rotate_left
                · intro w'
                  go_simp
                  with_reducible rfl
                rotate_left
                · simp only [Act.put, List.setIfInBounds_toArray, List.set_cons_zero, List.set_cons_succ, i64_w, i32_w]
                  rfl
                refine take_ (i := 11) (N := some 168) (v := ?_) (a' := ?_) #[true, true, true, true, true, true, true, true, true, true, true, true, false, false, true, false, false, false] rfl rfl (take_ofW HT_.out HW_.out (by kernel_rfl)) (fun _ _ _ h => h) (Or.inl ⟨by rfl, ?_⟩) hHeld ?_ ?_
                rotate_left
                · rintro w' ⟨s0, s1, s2, s3, s4⟩
                  go_simp
                  with_reducible rfl
                rotate_left
                · simp only [Act.put, List.setIfInBounds_toArray, List.set_cons_zero, List.set_cons_succ, i64_w, i32_w]
                  rfl
                refine pure_ (i := 12) (N := some 169) (v := ?_) (a' := ?_) #[true, true, true, true, true, true, true, true, true, true, true, true, true, false, true, false, false, false] rfl rfl (any_of HT_.out (by kernel_rfl)) (fun _ _ _ h => h) (Or.inl ⟨by rfl, ?_⟩) ?_ ?_
                rotate_left
                · intro w'
                  go_simp
                  with_reducible rfl
                rotate_left
                · simp only [Act.put, List.setIfInBounds_toArray, List.set_cons_zero, List.set_cons_succ, i64_w, i32_w]
                  rfl
                refine take_ (i := 13) (N := some 170) (v := ?_) (a' := ?_) #[true, true, true, true, true, true, true, true, true, true, true, true, true, true, true, false, false, false] rfl rfl (take_ofW HT_.out HW_.out (by kernel_rfl)) (fun _ _ _ h => h) (Or.inl ⟨by rfl, ?_⟩) hHeld ?_ ?_
                rotate_left
                · rintro w' ⟨s0, s1, s2, s3, s4⟩
                  go_simp
                  with_reducible rfl
                rotate_left
                · simp only [Act.put, List.setIfInBounds_toArray, List.set_cons_zero, List.set_cons_succ, i64_w, i32_w]
                  rfl
                refine pure_ (i := 15) (N := some 172) (v := ?_) (a' := ?_) #[true, true, true, true, true, true, true, true, true, true, true, true, true, true, true, true, false, false] rfl rfl (any_of HT_.out (by kernel_rfl)) (fun _ _ _ h => h) (Or.inl ⟨by rfl, ?_⟩) ?_ ?_
                rotate_left
                · intro w'
                  go_simp
                  with_reducible rfl
                rotate_left
                · simp only [Act.put, List.setIfInBounds_toArray, List.set_cons_zero, List.set_cons_succ, i64_w, i32_w]
                  rfl
                refine pure_ (i := 16) (N := some 173) (v := ?_) (a' := ?_) #[true, true, true, true, true, true, true, true, true, true, true, true, true, true, true, true, true, false] rfl rfl (any_of HT_.out (by kernel_rfl)) (fun _ _ _ h => h) (Or.inl ⟨by rfl, ?_⟩) ?_ ?_
                rotate_left
                · intro w'
                  go_simp
                  with_reducible rfl
                rotate_left
                · simp only [Act.put, List.setIfInBounds_toArray, List.set_cons_zero, List.set_cons_succ, i64_w, i32_w]
                  rfl
                refine last_ (i := 17) (N := none) #[true, true, true, true, true, true, true, true, true, true, true, true, true, true, true, true, true, true] rfl rfl (by kernel_rfl) (by decide) (fun K hK => ?_)
                refine skip_ (w1 := ?_) (by rfl) rfl ?_ ?_
                rotate_left
                · go_simp
                  rfl
                refine hK.out _ _ ?_
                clear hK K
                refine done_ (done_of HT_.out (by kernel_rfl)) ?_
                have HS2 := Aside0.mk (HS.out.sL HA.out (rd l2 x) (wrap64 ((rd L1 (rd l2 x)) + by_)))
                clear HS k1_ k3 kO kL fL hHeld
                generalize hw_ : w5.setCell ⟨gL, (rd l2 x).toNat, none⟩ (.int .i64 (wrap64 ((rd L1 (rd l2 x)) + by_))) = w6 at HS2 ⊢
                have HS := Aside0.mk (show St w0 w P l1.length ⟨gL, cL, gB, cB, gO, cO, gl, cl, gf, cf, gg, cg, gb⟩ #[.slice A1 l1.length c1, .slice (some ⟨gL, 0, none⟩) l1.length cL, .slice (some ⟨gB, 0, none⟩) l1.length cB, .slice (some ⟨gO, 0, none⟩) l1.length cO] 82 (L1.set (rd l2 x).toNat (wrap64 ((rd L1 (rd l2 x)) + by_))) B1 l2 ls2 fr1 gn w6 from HS2.out)
                clear HS2 hw_
                have k2_ : w6.cell? ⟨gb, 2, none⟩ = some (.slice (some ⟨gB, 0, none⟩) l1.length cB) := (blk_cell HS.out.bk 2).trans rfl
                have kB : w6.cell? ⟨gB, x.toNat, none⟩ = some (.int .i64 (rd B1 x)) := (HS.out.rB.cell x HX0.out.1 HX0.out.2).1
                have fB : w6.frozen? ⟨gB, x.toNat, none⟩ = false := (HS.out.rB.cell x HX0.out.1 HX0.out.2).2
                go_wp2_with (first | ((with_reducible refine gate_store (t := 3) (p := 184) rfl ?_); refine store_event (t := 3) (p := 184) (v := ?vo_7) (w1 := (w6.setCell ⟨gB, x.toNat, none⟩ (.int .i64 (wrap64 ((rd B1 x) - by_))))) ?hg ?ho ?hn ?hr ?_; (case ho => rfl); (case hg => rfl); (case hn => rfl); (case hr => first | (go_simp; done) | (go_simp; rfl)); intro w7 hw_; have HS2 := Aside0.mk (show St w0 w P l1.length ⟨gL, cL, gB, cB, gO, cO, gl, cl, gf, cf, gg, cg, gb⟩ #[.slice A1 l1.length c1, .slice (some ⟨gL, 0, none⟩) l1.length cL, .slice (some ⟨gB, 0, none⟩) l1.length cB, .slice (some ⟨gO, 0, none⟩) l1.length cO] 82 (L1.set (rd l2 x).toNat (wrap64 ((rd L1 (rd l2 x)) + by_))) (B1.set x.toNat (wrap64 ((rd B1 x) - by_))) l2 ls2 fr1 gn w7 by rw [hw_]; exact HS.out.sB HA.out x (wrap64 ((rd B1 x) - by_))); clear HS; have HS := HS2; clear HS2; clear k2_ kB fB; clear hw_))
                go_roundg k3
                case measure => omega
                case rel => exact ⟨x + 1, (L1.set (rd l2 x).toNat (wrap64 ((rd L1 (rd l2 x)) + by_))), (B1.set x.toNat (wrap64 ((rd B1 x) - by_))), ls2, by first | rfl | rw [hx1], ⟨by have := HX.out; omega⟩, ⟨by have h_ := HAF.out; rw [adjF, es] at h_; exact h_⟩, HS⟩
              · have hcg : wr.cell? ⟨gg, x.toNat, none⟩ = some (.bool false) := by rw [show false = rdOf false gn x by revert hg; cases rdOf false gn x <;> simp]; exact (HS.out.rg.cell x HX0.out.1 HX0.out.2).1
                have es : adjS by_ gn l2 x (L1, B1, ls2) = (L1, B1, (ls2.set x.toNat (wrap64 ((rd ls2 x) - by_)))) := by unfold adjS; rw [if_neg hg]
                clear hg
                have kl : wr.cell? ⟨gl, x.toNat, none⟩ = some (.int .i64 (rd ls2 x)) := (HS.out.rl.cell x HX0.out.1 HX0.out.2).1
                have fl : wr.frozen? ⟨gl, x.toNat, none⟩ = false := (HS.out.rl.cell x HX0.out.1 HX0.out.2).2
                go_wp2_with (first | ((with_reducible refine gate_store (t := 3) (p := 191) rfl ?_); refine store_event (t := 3) (p := 191) (v := ?vo_8) (w1 := (wr.setCell ⟨gl, x.toNat, none⟩ (.int .i64 (wrap64 ((rd ls2 x) - by_))))) ?hg ?ho ?hn ?hr ?_; (case ho => rfl); (case hg => rfl); (case hn => rfl); (case hr => first | (go_simp; done) | (go_simp; rfl)); intro w6 hw_; have HS2 := Aside0.mk (show St w0 w P l1.length ⟨gL, cL, gB, cB, gO, cO, gl, cl, gf, cf, gg, cg, gb⟩ #[.slice A1 l1.length c1, .slice (some ⟨gL, 0, none⟩) l1.length cL, .slice (some ⟨gB, 0, none⟩) l1.length cB, .slice (some ⟨gO, 0, none⟩) l1.length cO] 82 L1 B1 l2 (ls2.set x.toNat (wrap64 ((rd ls2 x) - by_))) fr1 gn w6 by rw [hw_]; exact HS.out.sl HA.out x (wrap64 ((rd ls2 x) - by_))); clear HS; have HS := HS2; clear HS2; clear kl fl hcg; clear hw_))
                go_roundg k3
                case measure => omega
                case rel => exact ⟨x + 1, L1, B1, (ls2.set x.toNat (wrap64 ((rd ls2 x) - by_))), by first | rfl | rw [hx1], ⟨by have := HX.out; omega⟩, ⟨by have h_ := HAF.out; rw [adjF, es] at h_; exact h_⟩, HS⟩
             | zero =>
              have dx : decide (x < (l1.length : Int)) = false := decide_eq_false (by have := HX.out; omega)
              have e : A = (L1, B1, ls2) := HAF.out.symm
              subst e
              clear HX HAF
              have kg0 : wr.cell? ⟨gg, b.toNat, none⟩ = some (.bool (rdOf false gn b)) := (HS.out.rg.cell b HBB.out.1 HBB.out.2).1
              have kg : wr.frozen? ⟨gg, b.toNat, none⟩ = false := (HS.out.rg.cell b HBB.out.1 HBB.out.2).2
              go_wp2_with (first | ((with_reducible refine gate_store (t := 4) (p := 194) rfl ?_); refine store_event (t := 4) (p := 194) (v := ?vo_9) (w1 := (wr.setCell ⟨gg, b.toNat, none⟩ (.bool true))) ?hg ?ho ?hn ?hr ?_; (case ho => rfl); (case hg => rfl); (case hn => rfl); (case hr => first | (go_simp; done) | (go_simp; rfl)); intro w5 hw_; have HS2 := Aside0.mk (show St w0 w P l1.length ⟨gL, cL, gB, cB, gO, cO, gl, cl, gf, cf, gg, cg, gb⟩ #[.slice A1 l1.length c1, .slice (some ⟨gL, 0, none⟩) l1.length cL, .slice (some ⟨gB, 0, none⟩) l1.length cB, .slice (some ⟨gO, 0, none⟩) l1.length cO] 82 L1 B1 l2 ls2 fr1 (gn.set b.toNat true) w5 by rw [hw_]; exact HS.out.sg HA.out b true); clear HS; have HS := HS2; clear HS2; clear kg kg0; clear hw_))
              go_roundg k1
              case measure => omega
              case rel => exact ⟨ls2, fr1, (gn.set b.toNat true), b, L1, B1, rfl, ⟨HBB.out.2, HFR.out, fun x h0 h1 hg => (gone_set HBB.out.1 h0 hg).imp id (fun h => HGN.out x h0 h1 h)⟩, HN1, HS⟩

end Go.Proofs.Ytdlblaihleojmaa.GLCheapestFit
