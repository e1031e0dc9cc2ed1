-- Written by a program of this session (gprint.py), over the kit's print: not trusted: Lean checks it.
import Derived.Test.YtdlblaihleojmaaGLCheapestFit0
import Derived.Test.YtdlblaihleojmaaOwnQ
import Derived.Test.YtdlblaihleojmaaGLCheapestFit2
import Derived.Test.YtdlblaihleojmaaGLCheapestFit3
namespace Go.Proofs.Ytdlblaihleojmaa.GLCheapestFit
open Go.RowKit Go.Proofs.YtdlblaihleojmaaW.PrintWords Go.Proofs.YtdlblaihleojmaaW.PrintLast Go.Proofs.YtdlblaihleojmaaW.PrintMore Go.Proofs.YtdlblaihleojmaaW.PrintOwn
attribute [local go_sem] max2_int min2_int max_two min_two max_three min_three max_four min_four   -- for this text's walks alone
set_option linter.unusedVariables false
set_option linter.unusedSimpArgs false

/-! ### spec_l9Fit: function 63 -/
def spec_l9Fit.T2 : Bool × List (List Nat × List Nat) := (true, [([], []), ([], []), ([1, 1], [1]), ([], []), ([3, 3], [3]), ([2, 4], [2, 4]), ([0, 5], [0, 5]), ([6], [6]), ([7, 0, 1, 2, 3, 4, 5, 6, 7], [7])])
def spec_l9Fit.B2 : List Nat := [0, 0, 2, 0, 8, 30, 63, 127, 255]
theorem spec_l9Fit.tab2 : rtab .any (opsOf Try.f63 2) = spec_l9Fit.T2 := by kernel_rfl
theorem spec_l9Fit.bits2 : waitsOk spec_l9Fit.T2.2 spec_l9Fit.B2 = true := by kernel_rfl
def spec_l9Fit.T18 : Bool × List (List Nat × List Nat) := (true, [([], []), ([], []), ([1], [1]), ([2], [2]), ([3], [3]), ([0, 0], [0]), ([4, 5, 0, 1, 2, 3, 4, 5], [4])])
def spec_l9Fit.B18 : List Nat := [0, 0, 2, 6, 14, 1, 63]
theorem spec_l9Fit.tab18 : rtab .any (opsOf Try.f63 18) = spec_l9Fit.T18 := by kernel_rfl
theorem spec_l9Fit.bits18 : waitsOk spec_l9Fit.T18.2 spec_l9Fit.B18 = true := by kernel_rfl
def spec_l9Fit.f (l0 : List (List Int)) : Option (List Int × List Int × List Int) := fitF l0
set_option maxHeartbeats 8000000 in
set_option maxRecDepth 100000 in
theorem spec_l9Fit.calls (A0 : Option Addr) (c0 : Nat) (l0 : List (List Int)) (r1 r2 r3 : List Int) (w : World) (hr0 : Kd.C (Kd.slice 3 (Kd.int .i64)) w A0 l0.length l0) (hc0 : l0.length ≤ c0) (h : spec_l9Fit.f l0 = some (r1, r2, r3)) :
  Calls Try.prog 63 #[.slice A0 l0.length c0] w fun e w' => ∃ v0_ v1_ v2_ : Value, e = .returned (.tuple #[v0_, .agg #[v1_, v2_]]) ∧ Kd.R (Kd.int .i64) 3 w' w.heap.size (fun k_ => some k_ ≠ (v1_ : Value).ownBlock ∧ some k_ ≠ (v2_ : Value).ownBlock) v0_ r1 ∧ Kd.R (Kd.int .i64) 3 w' w.heap.size (fun k_ => some k_ ≠ (v0_ : Value).ownBlock ∧ some k_ ≠ (v2_ : Value).ownBlock) v1_ r2 ∧ Kd.R (Kd.int .i64) 3 w' w.heap.size (fun k_ => some k_ ≠ (v0_ : Value).ownBlock ∧ some k_ ≠ (v1_ : Value).ownBlock) v2_ r3 ∧ Below w.heap.size w w' := by
 have hu33 := Try.underlying33
 have hu82 := Try.underlying82
 unfold spec_l9Fit.f fitF at h
 by_cases hg : 1 ≤ l0.length ∧ l0.length ≤ 1000
 case neg => rw [if_neg hg] at h; cases h
 rw [if_pos hg] at h
 obtain ⟨s, hs, h⟩ := Option.bind_eq_some_iff.mp h
 obtain ⟨o, ho, h⟩ := Option.bind_eq_some_iff.mp h
 simp only [Option.some.injEq, Prod.mk.injEq] at h
 obtain ⟨rfl, rfl, rfl⟩ := h
 have HL := Aside0.mk hg
 have HSK := Aside0.mk hs
 have HPU := Aside0.mk ho
 have HR0 := Aside0.mk hr0
 have HC0 := Aside0.mk hc0
 have d0 : (0 ≤ (l0.length : Int)) = True := eq_true (by omega)
 clear hg hs ho hr0 hc0
 go_enter Try.func63, Try.ntmps63
 go_wp2_with (first | ((with_reducible refine gate_dst (N := 3) rfl ?_); refine box_event ?hg (N := 3) ?hd (cs := #[.slice none 0 0, .slice none 0 0]) (t := 33) ?hr ?_; (case hd => rfl); (case hg => rfl); (case hr => first | (go_simp; done) | (go_simp; rfl)); intro gr hg w1 hbox hb; have HB := Aside0.mk hb; have BR := Aside0.mk hbox; have GR := Aside0.mk (show w.heap.size ≤ gr by rw [hg]; exact Nat.le_refl _); clear hg hbox hb))
 replace BR := Aside0.mk (blk_drew BR.out)
 replace HB := Aside0.mk (below_drew1 HB.out)
 have HI := Aside0.mk (Below.refl w1.drew.heap.size w1.drew)
 refine start_ (n := 9) (S := fun w' => True) (ds := []) #[false, false, false, false, false, false, false, false, false] (by kernel_rfl) rfl rfl trivial (fun hHeld => ?_); refine with_tabW spec_l9Fit.tab2 spec_l9Fit.bits2 (fun HT_ HW_ => ?_)
 generalize w1.drew = w3 at BR HI HB ⊢
 refine pure_ (i := 0) (N := some 12) (v := ?_) (a' := ?_) #[true, false, false, false, false, false, false, false, false] rfl rfl (by kernel_rfl) (fun _ _ _ h => h) (Or.inl ⟨by rfl, ?_⟩) ?_ ?_
 rotate_left
 · intro w'
   go_simp
   with_reducible rfl
 rotate_left
 · simp only [Act.put, List.setIfInBounds_toArray, List.set_cons_zero, List.set_cons_succ, i64_w, i32_w]
   rfl
 refine pure_ (i := 1) (N := some 13) (v := ?_) (a' := ?_) #[true, true, false, false, false, false, false, false, false] rfl rfl (by kernel_rfl) (fun _ _ _ h => h) (Or.inl ⟨by rfl, ?_⟩) ?_ ?_
 rotate_left
 · intro w'
   go_simp
   with_reducible rfl
 rotate_left
 · simp only [Act.put, List.setIfInBounds_toArray, List.set_cons_zero, List.set_cons_succ, i64_w, i32_w]
   rfl
 refine pure_ (i := 3) (N := some 15) (v := ?_) (a' := ?_) #[true, true, false, true, false, false, false, false, false] rfl rfl (by kernel_rfl) (fun _ _ _ h => h) (Or.inl ⟨by rfl, ?_⟩) ?_ ?_
 rotate_left
 · intro w'
   go_simp
   with_reducible rfl
 rotate_left
 · simp only [Act.put, List.setIfInBounds_toArray, List.set_cons_zero, List.set_cons_succ, i64_w, i32_w]
   rfl
 refine inv_at [2, 4, 5, 6, 7, 8] (fun a0_ b a w' => ∃ (col : Nat → Nat) (gL : Nat) (cL : Nat) (gB : Nat) (cB : Nat) (gb : Nat) (m2_ : Value) (m4_ : Value) (m5_ : Value) (m6_ : Value) (m7_ : Value) (m8_ : Value), a = putSel a0_ b [(2, 14, m2_), (4, 16, m4_), (5, 17, m5_), (6, 18, m6_), (7, 19, m7_), (8, 5, m8_)] ∧ (Below w3.heap.size w3 w') ∧ (b 2 = true → Kd.R (Kd.int .i64) 3 w' w3.heap.size (fun k_ => col k_ = 0) (.slice (some ⟨gL, 0, none⟩) l0.length cL) (List.replicate l0.length (0 : Int))) ∧ (b 4 = true → Kd.R (Kd.int .i64) 3 w' w3.heap.size (fun k_ => col k_ = 1) (.slice (some ⟨gB, 0, none⟩) l0.length cB) (List.replicate l0.length (0 : Int))) ∧ (b 7 = true → w'.heap[gb]? = some (.cells #[.slice A0 l0.length c0, .slice (some ⟨gL, 0, none⟩) l0.length cL, .slice (some ⟨gB, 0, none⟩) l0.length cB, .slice none 0 0] 82 (0, 0))) ∧ (b 7 = true → w3.heap.size ≤ gb) ∧ (b 2 = true → (m2_ : Value) = .slice (some ⟨gL, 0, none⟩) l0.length cL) ∧ (b 4 = true → (m4_ : Value) = .slice (some ⟨gB, 0, none⟩) l0.length cB) ∧ (b 5 = true → (m5_ : Value) = .agg #[.slice (some ⟨gL, 0, none⟩) l0.length cL, .slice (some ⟨gB, 0, none⟩) l0.length cB]) ∧ (b 6 = true → (m6_ : Value) = .agg #[.slice A0 l0.length c0, .slice (some ⟨gL, 0, none⟩) l0.length cL, .slice (some ⟨gB, 0, none⟩) l0.length cB, .slice none 0 0]) ∧ (b 7 = true → (m7_ : Value) = .pointer (some ⟨gb, 0, none⟩)) ∧ (b 8 = true → (m8_ : Value) = .pointer (some ⟨gb, 0, none⟩))) HT_.out HW_.out (by kernel_rfl) (by kernel_rfl) ?_ ?_ ?_
 · exact ⟨(fun _ => 9), 0, 0, 0, 0, 0, .bool false, .bool false, .bool false, .bool false, .bool false, .bool false, by simp only [putSel, Bool.false_eq_true, if_false], HI.out, fun h_ => absurd h_ (by decide), fun h_ => absurd h_ (by decide), fun h_ => absurd h_ (by decide), fun h_ => absurd h_ (by decide), fun h_ => absurd h_ (by decide), fun h_ => absurd h_ (by decide), fun h_ => absurd h_ (by decide), fun h_ => absurd h_ (by decide), fun h_ => absurd h_ (by decide), fun h_ => absurd h_ (by decide)⟩
 · skip
   clear HI
   refine steps_cons ?_ ?_
   · rintro b a w' ⟨col, gL, cL, gB, cB, gb, m2_, m4_, m5_, m6_, m7_, m8_, ha, Q_HI, Q_RA, Q_RB, Q_BK, Q_GB, Q_X2_, Q_X4_, Q_X5_, Q_X6_, Q_X7_, Q_X8_⟩ hb_ hon hoff
     refine ⟨_, rfl, fun K hK => ?_⟩
     have e13 : a.tmps[13]? = some (.int .i64 (l0.length : Int)) := by rw [ha]; exact (putSel_off rfl).trans rfl
     replace ha := Aside0.mk ha
     have HI := Aside0.mk Q_HI
     refine Kd.R_make_step (Kd.int .i64) (w0 := w') w'.heap.size 3 (by rfl) (N := 14) rfl 27 _ _ rfl (l0.length : Int) (by simp only [Act.eval, Array.getD_eq_getD_getElem?, e13, Option.getD_some]) (by simp only [Act.eval, Array.getD_eq_getD_getElem?, e13, Option.getD_some]) Try.underlying27 (.int .i64 0) 8 info3 rfl (by decide) (by omega) 0 (ok := fun _ => True) (okp := fun _ => True) rfl (fun _ hk => hk) trivial (by omega) (by have := HL.out; omega) (Below.refl _ _) (Nat.le_refl _) ?_
     intro u_ w4 hu_ hb_4 _ _
     rw [Int.toNat_natCast] at hu_
     obtain ⟨g_, c_, e_, _, _, _⟩ := Kd.R_form hu_ (by rw [List.length_replicate]; have := HL.out; omega)
     rw [List.length_replicate] at e_
     subst e_
     refine hK.out _ _ ⟨(fun k_ => if w'.heap.size ≤ k_ then 0 else col k_), g_, c_, gB, cB, gb, (.slice (some ⟨g_, 0, none⟩) l0.length c_), m4_, m5_, m6_, m7_, m8_, (by rw [ha.out]; exact putSel_upk 0 hb_ rfl rfl rfl), below_step HI.out hb_4, fun _ => col_new hu_ HI.out.size 0, fun h0_ => col_below (Q_RB h0_) hb_4 0, fun h0_ => absurd ((hoff 7 (by kernel_rfl)).symm.trans h0_) (by decide), fun h0_ => absurd ((hoff 7 (by kernel_rfl)).symm.trans h0_) (by decide), fun _ => rfl, Q_X4_, fun h0_ => absurd ((hoff 5 (by kernel_rfl)).symm.trans h0_) (by decide), fun h0_ => absurd ((hoff 6 (by kernel_rfl)).symm.trans h0_) (by decide), fun h0_ => absurd ((hoff 7 (by kernel_rfl)).symm.trans h0_) (by decide), fun h0_ => absurd ((hoff 8 (by kernel_rfl)).symm.trans h0_) (by decide)⟩
   refine steps_cons ?_ ?_
   · rintro b a w' ⟨col, gL, cL, gB, cB, gb, m2_, m4_, m5_, m6_, m7_, m8_, ha, Q_HI, Q_RA, Q_RB, Q_BK, Q_GB, Q_X2_, Q_X4_, Q_X5_, Q_X6_, Q_X7_, Q_X8_⟩ hb_ hon hoff
     refine ⟨_, rfl, fun K hK => ?_⟩
     have e15 : a.tmps[15]? = some (.int .i64 (l0.length : Int)) := by rw [ha]; exact (putSel_off rfl).trans rfl
     replace ha := Aside0.mk ha
     have HI := Aside0.mk Q_HI
     refine Kd.R_make_step (Kd.int .i64) (w0 := w') w'.heap.size 3 (by rfl) (N := 16) rfl 27 _ _ rfl (l0.length : Int) (by simp only [Act.eval, Array.getD_eq_getD_getElem?, e15, Option.getD_some]) (by simp only [Act.eval, Array.getD_eq_getD_getElem?, e15, Option.getD_some]) Try.underlying27 (.int .i64 0) 8 info3 rfl (by decide) (by omega) 0 (ok := fun _ => True) (okp := fun _ => True) rfl (fun _ hk => hk) trivial (by omega) (by have := HL.out; omega) (Below.refl _ _) (Nat.le_refl _) ?_
     intro u_ w4 hu_ hb_4 _ _
     rw [Int.toNat_natCast] at hu_
     obtain ⟨g_, c_, e_, _, _, _⟩ := Kd.R_form hu_ (by rw [List.length_replicate]; have := HL.out; omega)
     rw [List.length_replicate] at e_
     subst e_
     refine hK.out _ _ ⟨(fun k_ => if w'.heap.size ≤ k_ then 1 else col k_), gL, cL, g_, c_, gb, m2_, (.slice (some ⟨g_, 0, none⟩) l0.length c_), m5_, m6_, m7_, m8_, (by rw [ha.out]; exact putSel_upk 1 hb_ rfl rfl rfl), below_step HI.out hb_4, fun h0_ => col_below (Q_RA h0_) hb_4 1, fun _ => col_new hu_ HI.out.size 1, fun h0_ => absurd ((hoff 7 (by kernel_rfl)).symm.trans h0_) (by decide), fun h0_ => absurd ((hoff 7 (by kernel_rfl)).symm.trans h0_) (by decide), Q_X2_, fun _ => rfl, fun h0_ => absurd ((hoff 5 (by kernel_rfl)).symm.trans h0_) (by decide), fun h0_ => absurd ((hoff 6 (by kernel_rfl)).symm.trans h0_) (by decide), fun h0_ => absurd ((hoff 7 (by kernel_rfl)).symm.trans h0_) (by decide), fun h0_ => absurd ((hoff 8 (by kernel_rfl)).symm.trans h0_) (by decide)⟩
   refine steps_cons ?_ ?_
   · rintro b a w' ⟨col, gL, cL, gB, cB, gb, m2_, m4_, m5_, m6_, m7_, m8_, ha, Q_HI, Q_RA, Q_RB, Q_BK, Q_GB, Q_X2_, Q_X4_, Q_X5_, Q_X6_, Q_X7_, Q_X8_⟩ hb_ hon hoff
     refine ⟨_, rfl, fun K hK => ?_⟩
     have e14 : a.tmps[14]? = some (m2_) := by rw [ha]; exact putSel_on (e := (2, 14, m2_)) 0 rfl rfl (hon 2 (by kernel_rfl)) rfl
     rw [Q_X2_ (hon 2 (by kernel_rfl))] at e14
     have e16 : a.tmps[16]? = some (m4_) := by rw [ha]; exact putSel_on (e := (4, 16, m4_)) 1 rfl rfl (hon 4 (by kernel_rfl)) rfl
     rw [Q_X4_ (hon 4 (by kernel_rfl))] at e16
     replace ha := Aside0.mk ha
     have HI := Aside0.mk Q_HI
     have RA := Aside0.mk (Q_RA (hon 2 (by kernel_rfl)))
     have RB := Aside0.mk (Q_RB (hon 4 (by kernel_rfl)))
     refine value_ (w1 := w') (v := .agg #[.slice (some ⟨gL, 0, none⟩) l0.length cL, .slice (some ⟨gB, 0, none⟩) l0.length cB]) (by rfl) rfl ?_ ?_
     · go_simp
       (try simp only [i64_w])
       try rfl
     refine hK.out _ _ ⟨col, gL, cL, gB, cB, gb, m2_, m4_, (.agg #[.slice (some ⟨gL, 0, none⟩) l0.length cL, .slice (some ⟨gB, 0, none⟩) l0.length cB]), m6_, m7_, m8_, (by rw [ha.out]; exact putSel_upk 2 hb_ rfl rfl rfl), Q_HI, Q_RA, Q_RB, fun h0_ => absurd ((hoff 7 (by kernel_rfl)).symm.trans h0_) (by decide), fun h0_ => absurd ((hoff 7 (by kernel_rfl)).symm.trans h0_) (by decide), Q_X2_, Q_X4_, fun _ => rfl, fun h0_ => absurd ((hoff 6 (by kernel_rfl)).symm.trans h0_) (by decide), fun h0_ => absurd ((hoff 7 (by kernel_rfl)).symm.trans h0_) (by decide), fun h0_ => absurd ((hoff 8 (by kernel_rfl)).symm.trans h0_) (by decide)⟩
   refine steps_cons ?_ ?_
   · rintro b a w' ⟨col, gL, cL, gB, cB, gb, m2_, m4_, m5_, m6_, m7_, m8_, ha, Q_HI, Q_RA, Q_RB, Q_BK, Q_GB, Q_X2_, Q_X4_, Q_X5_, Q_X6_, Q_X7_, Q_X8_⟩ hb_ hon hoff
     refine ⟨_, rfl, fun K hK => ?_⟩
     have e12 : a.tmps[12]? = some (.slice A0 l0.length c0) := by rw [ha]; exact (putSel_off rfl).trans rfl
     have e17 : a.tmps[17]? = some (m5_) := by rw [ha]; exact putSel_on (e := (5, 17, m5_)) 2 rfl rfl (hon 5 (by kernel_rfl)) rfl
     rw [Q_X5_ (hon 5 (by kernel_rfl))] at e17
     replace ha := Aside0.mk ha
     have HI := Aside0.mk Q_HI
     have RA := Aside0.mk (Q_RA (hon 2 (by kernel_rfl)))
     have RB := Aside0.mk (Q_RB (hon 4 (by kernel_rfl)))
     refine value_ (w1 := w') (v := .agg #[.slice A0 l0.length c0, .slice (some ⟨gL, 0, none⟩) l0.length cL, .slice (some ⟨gB, 0, none⟩) l0.length cB, .slice none 0 0]) (by rfl) rfl ?_ ?_
     · go_simp
       (try simp only [i64_w])
       try rfl
     refine hK.out _ _ ⟨col, gL, cL, gB, cB, gb, m2_, m4_, m5_, (.agg #[.slice A0 l0.length c0, .slice (some ⟨gL, 0, none⟩) l0.length cL, .slice (some ⟨gB, 0, none⟩) l0.length cB, .slice none 0 0]), m7_, m8_, (by rw [ha.out]; exact putSel_upk 3 hb_ rfl rfl rfl), Q_HI, Q_RA, Q_RB, fun h0_ => absurd ((hoff 7 (by kernel_rfl)).symm.trans h0_) (by decide), fun h0_ => absurd ((hoff 7 (by kernel_rfl)).symm.trans h0_) (by decide), Q_X2_, Q_X4_, Q_X5_, fun _ => rfl, fun h0_ => absurd ((hoff 7 (by kernel_rfl)).symm.trans h0_) (by decide), fun h0_ => absurd ((hoff 8 (by kernel_rfl)).symm.trans h0_) (by decide)⟩
   refine steps_cons ?_ ?_
   · rintro b a w' ⟨col, gL, cL, gB, cB, gb, m2_, m4_, m5_, m6_, m7_, m8_, ha, Q_HI, Q_RA, Q_RB, Q_BK, Q_GB, Q_X2_, Q_X4_, Q_X5_, Q_X6_, Q_X7_, Q_X8_⟩ hb_ hon hoff
     refine ⟨_, rfl, fun K hK => ?_⟩
     have e18 : a.tmps[18]? = some (m6_) := by rw [ha]; exact putSel_on (e := (6, 18, m6_)) 3 rfl rfl (hon 6 (by kernel_rfl)) rfl
     rw [Q_X6_ (hon 6 (by kernel_rfl))] at e18
     replace ha := Aside0.mk ha
     have HI := Aside0.mk Q_HI
     have RA := Aside0.mk (Q_RA (hon 2 (by kernel_rfl)))
     have RB := Aside0.mk (Q_RB (hon 4 (by kernel_rfl)))
     refine box_step ?hg (N := 19) ?hd (cs := #[.slice A0 l0.length c0, .slice (some ⟨gL, 0, none⟩) l0.length cL, .slice (some ⟨gB, 0, none⟩) l0.length cB, .slice none 0 0]) (t := 82) ?hr ?_; (case hd => rfl); (case hg => rfl); (case hr => first | (go_simp; done) | (go_simp; rfl))
     intro g_ hg_ w4 hbox_ hb_4
     refine hK.out _ _ ⟨(fun k_ => if w'.heap.size ≤ k_ then 2 else col k_), gL, cL, gB, cB, g_, m2_, m4_, m5_, m6_, (.pointer (some ⟨g_, 0, none⟩)), m8_, (by rw [ha.out]; exact putSel_upk 4 hb_ rfl rfl rfl), below_step HI.out hb_4, fun _ => col_below RA.out hb_4 2, fun _ => col_below RB.out hb_4 2, fun _ => hbox_, fun _ => (by rw [hg_]; exact HI.out.size), Q_X2_, Q_X4_, Q_X5_, Q_X6_, fun _ => rfl, fun h0_ => absurd ((hoff 8 (by kernel_rfl)).symm.trans h0_) (by decide)⟩
   refine steps_cons ?_ ?_
   · rintro b a w' ⟨col, gL, cL, gB, cB, gb, m2_, m4_, m5_, m6_, m7_, m8_, ha, Q_HI, Q_RA, Q_RB, Q_BK, Q_GB, Q_X2_, Q_X4_, Q_X5_, Q_X6_, Q_X7_, Q_X8_⟩ hb_ hon hoff
     refine ⟨_, rfl, fun K hK => ?_⟩
     have e19 : a.tmps[19]? = some (m7_) := by rw [ha]; exact putSel_on (e := (7, 19, m7_)) 4 rfl rfl (hon 7 (by kernel_rfl)) rfl
     rw [Q_X7_ (hon 7 (by kernel_rfl))] at e19
     replace ha := Aside0.mk ha
     have HI := Aside0.mk Q_HI
     have RA := Aside0.mk (Q_RA (hon 2 (by kernel_rfl)))
     have RB := Aside0.mk (Q_RB (hon 4 (by kernel_rfl)))
     have BK := Aside0.mk (Q_BK (hon 7 (by kernel_rfl)))
     have GB := Aside0.mk (Q_GB (hon 7 (by kernel_rfl)))
     refine value_ (w1 := w') (v := .pointer (some ⟨gb, 0, none⟩)) (by rfl) rfl ?_ ?_
     · go_simp
       (try simp only [i64_w])
       try rfl
     refine hK.out _ _ ⟨col, gL, cL, gB, cB, gb, m2_, m4_, m5_, m6_, m7_, (.pointer (some ⟨gb, 0, none⟩)), (by rw [ha.out]; exact putSel_upk 5 hb_ rfl rfl rfl), Q_HI, Q_RA, Q_RB, Q_BK, Q_GB, Q_X2_, Q_X4_, Q_X5_, Q_X6_, Q_X7_, fun _ => rfl⟩
   exact steps_nil
 rintro b a w' hall ⟨col, gL, cL, gB, cB, gb, m2_, m4_, m5_, m6_, m7_, m8_, ha, Q_HI, Q_RA, Q_RB, Q_BK, Q_GB, Q_X2_, Q_X4_, Q_X5_, Q_X6_, Q_X7_, Q_X8_⟩
 clear HI
 have hb2_ := hall 2 (by kernel_rfl)
 have hb4_ := hall 4 (by kernel_rfl)
 have hb5_ := hall 5 (by kernel_rfl)
 have hb6_ := hall 6 (by kernel_rfl)
 have hb7_ := hall 7 (by kernel_rfl)
 have hb8_ := hall 8 (by kernel_rfl)
 subst ha
 obtain rfl := Q_X2_ hb2_
 obtain rfl := Q_X4_ hb4_
 obtain rfl := Q_X5_ hb5_
 obtain rfl := Q_X6_ hb6_
 obtain rfl := Q_X7_ hb7_
 obtain rfl := Q_X8_ hb8_
 simp only [putSel, hb2_, hb4_, hb5_, hb6_, hb7_, hb8_, if_true, Act.put, List.setIfInBounds_toArray, List.set_cons_zero, List.set_cons_succ]
 have HI := Aside0.mk Q_HI
 clear Q_HI
 have RA := Aside0.mk (Q_RA hb2_)
 clear Q_RA
 have RB := Aside0.mk (Q_RB hb4_)
 clear Q_RB
 have BK := Aside0.mk (Q_BK hb7_)
 clear Q_BK
 have GB := Aside0.mk (Q_GB hb7_)
 clear Q_GB
 clear hall hb2_ hb4_ hb5_ hb6_ hb7_ hb8_
 obtain ⟨_, _, e_, EgL, lgL_, _⟩ := Kd.R_form RA.out (by rw [List.length_replicate]; have := HL.out; omega)
 rw [List.length_replicate] at e_
 cases e_
 have KgL : col gL = 0 := RA.out.1 gL (by simp [Value.ownBlock])
 obtain ⟨_, _, e_, EgB, lgB_, _⟩ := Kd.R_form RB.out (by rw [List.length_replicate]; have := HL.out; omega)
 rw [List.length_replicate] at e_
 cases e_
 have KgB : col gB = 1 := RB.out.1 gB (by simp [Value.ownBlock])
 have hsz := HB.out.size
 have hgr := blk_lt BR.out
 have hgr2 := GR.out
 have hgb := GB.out
 have tL : gL ≠ gb := fun e => by have h1 := Kd.R_ne RA.out BK.out (by decide); exact h1 (by rw [e]; simp [Value.ownBlock])
 have tB : gB ≠ gb := fun e => by have h1 := Kd.R_ne RB.out BK.out (by decide); exact h1 (by rw [e]; simp [Value.ownBlock])
 have HA := Aside0.mk (show Apt w gr gb gL gB from ⟨⟨⟨fun e => absurd (KgL.symm.trans ((congrArg col e).trans KgB)) (by decide), tL, Nat.ne_of_gt (show gr < gL by omega)⟩, ⟨tB, Nat.ne_of_gt (show gr < gB by omega)⟩, Nat.ne_of_gt (show gr < gb by omega)⟩, show w.heap.size ≤ gL by omega, show w.heap.size ≤ gB by omega, show w.heap.size ≤ gb by omega, hgr2⟩)
 have HF := Aside0.mk (show Fit w l0.length A0 c0 gr gb gL cL gB cB (List.replicate l0.length 0) (List.replicate l0.length 0) (.slice none 0 0) w' from ⟨Kd.R_lower (Kd.R_mono (ok' := fun k => k = gL) (Kd.R_tight rfl RA.out) (fun k hk => by simpa [Value.ownBlock] using hk)) hsz, Kd.R_lower (Kd.R_mono (ok' := fun k => k = gB) (Kd.R_tight rfl RB.out) (fun k hk => by simpa [Value.ownBlock] using hk)) hsz, BK.out, blk_below BR.out HI.out, below_step HB.out HI.out⟩)
 have HV := Aside0.mk (show Kd.R (Kd.int .i64) 3 w' w.heap.size (Pf w gr gb gL gB) (.slice none 0 0) [] from Kd.R_nil _ _ _ _ _)
 clear RA RB BK BR HI HB GB GR hsz hgr hgr2 hgb tL tB KgL KgB EgL lgL_ EgB lgB_
 try go_wp2
 go_loopg [22] l0.length (fun gk v22 w' => ∃ (x : Int) (v : Value), v22 = .int .i64 x ∧ Aside0 (0 ≤ x ∧ x + gk = (l0.length : Int)) ∧ Aside0 (Fit w l0.length A0 c0 gr gb gL cL gB cB (List.replicate l0.length 0) (List.replicate l0.length 0) v w') ∧ Aside0 (Kd.R (Kd.int .i64) 3 w' w.heap.size (Pf w gr gb gL gB) v (List.replicate x.toNat (-1))))
 case atStart => exact ⟨0, _, rfl, ⟨⟨by omega, by omega⟩⟩, HF, HV⟩
 case round =>
  clear HF HV
  obtain ⟨x, v, rfl, HX, HF, HV⟩ := hrel
  cases gk with
  | succ k2 =>
   have dx : decide (x < (l0.length : Int)) = true := decide_eq_true (by have := HX.out; omega)
   have HX0 := Aside0.mk (show 0 ≤ x ∧ x < (l0.length : Int) by have := HX.out; omega)
   have px : (0 ≤ x) = True := eq_true HX0.out.1
   have qx : (x < (l0.length : Int)) = True := eq_true HX0.out.2
   have hx1 : wrap64 (x + 1) = x + 1 := by have := HX.out; have := HL.out; unfold wrap64; omega
   obtain ⟨xs1, hxs⟩ : ∃ y_, List.replicate x.toNat (-1 : Int) ++ [-1] = y_ := ⟨_, rfl⟩
   have HXS := Aside0.mk (show xs1 = List.replicate (x + 1).toNat (-1) by rw [← hxs]; exact neg_more HX0.out.1)
   have HXN := Aside0.mk hxs
   clear hxs
   have k3 : wr.cell? ⟨gb, 3, none⟩ = some v := (blk_cell HF.out.bk 3).trans rfl
   go_wp2_with (first | ((with_reducible refine gate_builtin (b := .append) (xs := #[.tmp 28, .tmp 29]) rfl ?_); at_builtin; refine Kd.R_append (Kd.int .i64) (w0 := w) w.heap.size rfl (.tmp 28) (.tmp 29) 27 3 (.int .i64 0) 8 rfl Try.underlying27 info3 rfl (by decide) (by omega) v (List.replicate x.toNat (-1)) (-1) [.int .i64 (-1)] (Pf w gr gb gL gB) (fun _ => False) rfl rfl ?aP (fun _ hk => hk.elim) ?aF ?aO ?aB ?aS ?aL ?_; (case aP => exact rfl); (case aB => exact HF.out.bl); (case aF => exact HF.out.fresh); (case aO => exact HV.out); (case aS => exact HF.out.bl.size); (case aL => have := HX0.out; have := HL.out; rw [List.length_replicate]; omega); intro v5 w5 ho hb hg hat; rw [HXN.out] at ho; (obtain ⟨Ao, co, eo⟩ := Kd.R_slice ho); subst eo; have HF5 := Aside0.mk (HF.out.grown hg (fun k e => HV.out.1 k e) hb); have HV5 := Aside0.mk ho; have k5 : w5.cell? ⟨gb, 3, none⟩ = some v := (blk_cell HF5.out.bk 3).trans rfl; have f5 := blk_frozen HF5.out.bk 3; clear HF HV ho hb hg hat k3) | ((with_reducible refine gate_store (t := 27) (p := 32) rfl ?_); refine store_event (t := 27) (p := 32) (v := ?vo_1) (w1 := (w5.setCell ⟨gb, 3, none⟩ (.slice Ao xs1.length co))) ?hg ?ho ?hn ?hr ?_; (case ho => rfl); (case hg => rfl); (case hn => rfl); (case hr => first | (go_simp; done) | (go_simp; rfl)); intro w6 hw_; have HF := Aside0.mk (show Fit w l0.length A0 c0 gr gb gL cL gB cB (List.replicate l0.length 0) (List.replicate l0.length 0) (.slice Ao xs1.length co) w6 by rw [hw_]; exact HF5.out.put HA.out _); have HV := Aside0.mk (show Kd.R (Kd.int .i64) 3 w6 w.heap.size (Pf w gr gb gL gB) (.slice Ao xs1.length co) xs1 by rw [hw_]; exact Kd.R_far HV5.out (fun k hk => hk.2.2.2.1) _); clear HF5 HV5 k5 f5; clear hw_))
   go_roundg k2
   case measure => omega
   case rel => exact ⟨x + 1, _, by first | rfl | rw [hx1], ⟨by have := HX.out; omega⟩, HF, by rw [← HXS.out]; exact HV⟩
  | zero =>
   have dx : decide (x < (l0.length : Int)) = false := decide_eq_false (by have := HX.out; omega)
   have ex : x.toNat = l0.length := by have := HX.out; omega
   rw [ex] at HV
   obtain ⟨gO, cO, e_, EO, lO_, _⟩ := Kd.R_form HV.out (by rw [List.length_replicate]; have := HL.out; omega)
   rw [List.length_replicate] at e_
   subst e_
   have HO := Aside0.mk (show RI wr w.heap.size l0.length gO cO (List.replicate l0.length (-1)) from Kd.R_mono (ok' := fun k => k = gO) (Kd.R_tight rfl HV.out) (fun k hk => by simpa [Value.ownBlock] using hk))
   have HPO := Aside0.mk (show Pf w gr gb gL gB gO from HV.out.1 gO (by simp [Value.ownBlock]))
   clear HV HX ex EO lO_
   have k3 : wr.cell? ⟨gb, 3, none⟩ = some (.slice (some ⟨gO, 0, none⟩) l0.length cO) := (blk_cell HF.out.bk 3).trans rfl
   go_wp2
   go_loopg [36] l0.length (fun gk v36 w' => ∃ (x : Int) (L B O : List Int), v36 = .int .i64 x ∧ Aside0 (0 ≤ x ∧ x + gk = (l0.length : Int)) ∧ Aside0 (seeksF l0 gk x (L, B, O) = some s) ∧ Aside0 (Fit w l0.length A0 c0 gr gb gL cL gB cB L B (.slice (some ⟨gO, 0, none⟩) l0.length cO) w') ∧ Aside0 (RI w' w.heap.size l0.length gO cO O))
   case atStart => exact ⟨0, _, _, _, rfl, ⟨⟨by omega, by omega⟩⟩, HSK, HF, HO⟩
   case round =>
    clear HSK HF HO dx k3
    obtain ⟨x, L, B, O, rfl, HX, HSK, HF, HO⟩ := hrel
    cases gk with
    | succ k2 =>
     have dx : decide (x < (l0.length : Int)) = true := decide_eq_true (by have := HX.out; omega)
     have HX0 := Aside0.mk (show 0 ≤ x ∧ x < (l0.length : Int) by have := HX.out; omega)
     have px : (0 ≤ x) = True := eq_true HX0.out.1
     have qx : (x < (l0.length : Int)) = True := eq_true HX0.out.2
     have hx1 : wrap64 (x + 1) = x + 1 := by have := HX.out; have := HL.out; unfold wrap64; omega
     have h_ := HSK.out
     rw [seeksF] at h_
     obtain ⟨s1, h1_, h2_⟩ := Option.bind_eq_some_iff.mp h_
     have HC1 := Aside0.mk (show spec_l9M_seek.f l0 L B O x = some (s1.1, s1.2.1, s1.2.2) from h1_)
     have HN := Aside0.mk (show seeksF l0 k2 (x + 1) (s1.1, s1.2.1, s1.2.2) = some s from h2_)
     clear h_ h1_ h2_ HSK
     go_wp2_with (first | ((with_reducible refine gate_callee (f := 82) rfl ?_); refine goesL_ (some 41) rfl rfl Try.func82 (by kernel_rfl) rfl #[.pointer (some ⟨gb, 0, none⟩), .int .i64 x] rfl (by (try simp only [List.map_toArray, List.map_cons, List.map_nil]); first | done | rfl) ?_; (with_reducible refine (spec_l9M_seek.calls l0 L B O x s1.1 s1.2.1 s1.2.2 gb gL cL gB cB gO cO A0 c0 (fun k => k = gL ∨ k = gB ∨ k = gO) w _ ?side1 ?side2 ?side3 ?side4 ?side5 ?side6 ?side7 ?side8 ?side9 ?side10).mono ?_); (case side1 => exact HF.out.bl); (case side2 => exact HF.out.rL); (case side3 => exact HF.out.rB); (case side4 => exact HO.out); (case side5 => exact HF.out.bk); (case side6 => exact ⟨⟨HA.out.1.1.1, Ne.symm HPO.out.2.1, HA.out.1.1.2.1⟩, ⟨Ne.symm HPO.out.2.2.1, HA.out.1.2.1.1⟩, HPO.out.2.2.2.1⟩); (case side7 => exact ⟨.inl rfl, .inr (.inl rfl), .inr (.inr rfl)⟩); (case side8 => exact Kd.C_kept_came (Kd.heap_slice 3 (Kd.heap_int .i64)) HR0.out HF.out.bl (fun k hs => hs.elim (fun e => by rw [e]; exact HA.out.2.1) (fun e => e.elim (fun e => by rw [e]; exact HA.out.2.2.1) (fun e => by rw [e]; exact HPO.out.1)))); (case side9 => exact HC0.out); (case side10 => exact HC1.out); rintro e w5 ⟨rfl, ⟨hL, hB, hO⟩, hbk, hbl, hkp⟩; refine ⟨_, rfl, ?_⟩; have HF5 := Aside0.mk (show Fit w l0.length A0 c0 gr gb gL cL gB cB s1.1 s1.2.1 (.slice (some ⟨gO, 0, none⟩) l0.length cO) w5 from ⟨hL, hB, hbk, blk_kept HF.out.br hkp (fun hs => hs.elim (fun e => HA.out.1.1.2.2 e.symm) (fun e => e.elim (fun e => HA.out.1.2.1.2 e.symm) (fun e => HPO.out.2.2.2.2 e.symm))), hbl⟩); have HO5 := Aside0.mk hO; clear HF HO hL hB hO hbk hbl hkp))
     go_roundg k2
     case measure => omega
     case rel => exact ⟨x + 1, s1.1, s1.2.1, s1.2.2, by first | rfl | rw [hx1], ⟨by have := HX.out; omega⟩, HN, HF5, HO5⟩
    | zero =>
     have dx : decide (x < (l0.length : Int)) = false := decide_eq_false (by have := HX.out; omega)
     have e : s = (L, B, O) := (Option.some.inj HSK.out).symm
     subst e
     have HPU1 := Aside0.mk (show putsF O l0.length l0.length 0 (List.replicate l0.length 0) = some o from HPU.out)
     clear HSK HPU HX
     go_wp2_with (first | ((with_reducible refine gate_dst (N := 44) rfl ?_); refine Kd.R_make (Kd.int .i64) (w0 := wr) wr.heap.size 3 rfl (N := 44) rfl 27 _ _ rfl (l0.length : Int) rfl rfl Try.underlying27 (.int .i64 0) 8 info3 rfl (by decide) (by omega) 0 (ok := fun _ => True) (okp := fun _ => True) rfl (fun _ hk => hk) trivial (by omega) (by have := HL.out; omega) (Below.refl _ _) (Nat.le_refl _) ?_; intro v_ w5 ho hb hg_ hnew_; clear hg_ hnew_; rw [Int.toNat_natCast] at ho; (obtain ⟨gw, cw, e_, El_, ll_, _⟩ := Kd.R_form ho (by rw [List.length_replicate]; have := HL.out; omega)); rw [List.length_replicate] at e_; subst e_; have HG := Aside0.mk (HF.out.fresh gw El_); have HGO := Aside0.mk (show gw ≠ gO from Nat.ne_of_gt (Nat.lt_of_lt_of_le HO.out.own El_)); have HW := Aside0.mk (show RI w5 w.heap.size l0.length gw cw (List.replicate l0.length 0) from Kd.R_lower (Kd.R_mono (ok' := fun k => k = gw) (Kd.R_tight rfl ho) (fun k hk => by simpa [Value.ownBlock] using hk)) HF.out.bl.size); have HF5 := Aside0.mk (HF.out.below hb); have HO5 := Aside0.mk (show RI w5 w.heap.size l0.length gO cO O from Kd.R_below HO.out hb); have k5 : w5.cell? ⟨gb, 3, none⟩ = some (.slice (some ⟨gO, 0, none⟩) l0.length cO) := (blk_cell HF5.out.bk 3).trans rfl; clear HF HO ho hb El_ ll_))
     go_loopg [50] l0.length (fun gk v50 w' => ∃ (x : Int) (out : List Int), v50 = .int .i64 x ∧ Aside0 (0 ≤ x ∧ x + gk = (l0.length : Int)) ∧ Aside0 (putsF O l0.length gk x out = some o) ∧ Aside0 (Fit w l0.length A0 c0 gr gb gL cL gB cB L B (.slice (some ⟨gO, 0, none⟩) l0.length cO) w') ∧ Aside0 (RI w' w.heap.size l0.length gO cO O) ∧ Aside0 (RI w' w.heap.size l0.length gw cw out))
     case atStart => exact ⟨0, _, rfl, ⟨⟨by omega, by omega⟩⟩, HPU1, HF5, HO5, HW⟩
     case round =>
      clear HPU1 HF5 HO5 HW dx k5
      obtain ⟨x, out, rfl, HX, HPU, HF, HO, HW⟩ := hrel
      cases gk with
      | succ k2 =>
       have dx : decide (x < (l0.length : Int)) = true := decide_eq_true (by have := HX.out; omega)
       have HX0 := Aside0.mk (show 0 ≤ x ∧ x < (l0.length : Int) by have := HX.out; omega)
       have px : (0 ≤ x) = True := eq_true HX0.out.1
       have qx : (x < (l0.length : Int)) = True := eq_true HX0.out.2
       have hx1 : wrap64 (x + 1) = x + 1 := by have := HX.out; have := HL.out; unfold wrap64; omega
       have h_ := HPU.out
       rw [putsF] at h_
       by_cases ho : 0 ≤ rd O x ∧ rd O x < (l0.length : Int)
       case neg => rw [if_neg ho] at h_; cases h_
       rw [if_pos ho] at h_
       have HN := Aside0.mk h_
       have HOX := Aside0.mk ho
       clear h_ ho HPU
       have po : (0 ≤ rd O x) = True := eq_true HOX.out.1
       have qo : (rd O x < (l0.length : Int)) = True := eq_true HOX.out.2
       have kO : wr.cell? ⟨gO, x.toNat, none⟩ = some (.int .i64 (rd O x)) := (HO.out.cell x HX0.out.1 HX0.out.2).1
       have kw : wr.cell? ⟨gw, (rd O x).toNat, none⟩ = some (.int .i64 (rd out (rd O x))) := (HW.out.cell (rd O x) HOX.out.1 HOX.out.2).1
       have fw : wr.frozen? ⟨gw, (rd O x).toNat, none⟩ = false := (HW.out.cell (rd O x) HOX.out.1 HOX.out.2).2
       go_wp2_with (first | ((with_reducible refine gate_store (t := 3) (p := 58) rfl ?_); refine store_event (t := 3) (p := 58) (v := ?vo_2) (w1 := (wr.setCell ⟨gw, (rd O x).toNat, none⟩ (.int .i64 x))) ?hg ?ho ?hn ?hr ?_; (case ho => rfl); (case hg => rfl); (case hn => rfl); (case hr => first | (go_simp; done) | (go_simp; rfl)); intro w6 hw_; have HF6 := Aside0.mk (show Fit w l0.length A0 c0 gr gb gL cL gB cB L B (.slice (some ⟨gO, 0, none⟩) l0.length cO) w6 by rw [hw_]; exact HF.out.far HG.out _); have HO6 := Aside0.mk (show RI w6 w.heap.size l0.length gO cO O by rw [hw_]; exact HO.out.far (Ne.symm HGO.out) _); have HW6 := Aside0.mk (show RI w6 w.heap.size l0.length gw cw (out.set (rd O x).toNat x) by rw [hw_]; exact HW.out.put (rd O x) x); clear HF HO HW kO kw fw; clear hw_))
       go_roundg k2
       case measure => omega
       case rel => exact ⟨x + 1, _, by first | rfl | rw [hx1], ⟨by have := HX.out; omega⟩, HN, HF6, HO6, HW6⟩
      | zero =>
       have dx : decide (x < (l0.length : Int)) = false := decide_eq_false (by have := HX.out; omega)
       have e : out = o := Option.some.inj HPU.out
       subst e
       clear HPU HX
       go_wp2
       replace HF := Aside0.mk HF.out.drew
       replace HW := Aside0.mk (show RI wr.drew w.heap.size l0.length gw cw out from Kd.R_drew HW.out)
       have k1 : wr.drew.cell? ⟨gb, 1, none⟩ = some (.slice (some ⟨gL, 0, none⟩) l0.length cL) := (blk_cell HF.out.bk 1).trans rfl
       have k2 : wr.drew.cell? ⟨gb, 2, none⟩ = some (.slice (some ⟨gB, 0, none⟩) l0.length cB) := (blk_cell HF.out.bk 2).trans rfl
       refine start_ (n := 7) (S := fun w' => w'.cell? ⟨gb, 1, none⟩ = some (.slice (some ⟨gL, 0, none⟩) l0.length cL) ∧ w'.cell? ⟨gb, 2, none⟩ = some (.slice (some ⟨gB, 0, none⟩) l0.length cB)) (ds := [6]) #[false, false, false, false, false, false, false] (by kernel_rfl) rfl rfl ⟨k1, k2⟩ (fun hHeld => ?_); refine with_tabW spec_l9Fit.tab18 spec_l9Fit.bits18 (fun HT_ HW_ => ?_)
       generalize wr.drew = w5 at HF HW k1 k2 hHeld ⊢
       refine pure_ (i := 0) (N := some 60) (v := ?_) (a' := ?_) #[true, false, false, false, false, false, false] rfl rfl (any_of HT_.out (by kernel_rfl)) (fun _ _ _ h => h) (Or.inl ⟨by rfl, ?_⟩) ?_ ?_
       rotate_left
       · intro w'
         go_simp
         with_reducible rfl
       rotate_left
       · simp only [Act.put, List.setIfInBounds_toArray, List.set_cons_zero, List.set_cons_succ, i64_w, i32_w]
         rfl
       refine pure_ (i := 1) (N := some 61) (v := ?_) (a' := ?_) #[true, true, false, false, false, false, false] rfl rfl (any_of HT_.out (by kernel_rfl)) (fun _ _ _ h => h) (Or.inl ⟨by rfl, ?_⟩) ?_ ?_
       rotate_left
       · intro w'
         go_simp
         with_reducible rfl
       rotate_left
       · simp only [Act.put, List.setIfInBounds_toArray, List.set_cons_zero, List.set_cons_succ, i64_w, i32_w]
         rfl
       refine pure_ (i := 2) (N := some 62) (v := ?_) (a' := ?_) #[true, true, true, false, false, false, false] rfl rfl (any_of HT_.out (by kernel_rfl)) (fun _ _ _ h => h) (Or.inl ⟨by rfl, ?_⟩) ?_ ?_
       rotate_left
       · intro w'
         go_simp
         with_reducible rfl
       rotate_left
       · simp only [Act.put, List.setIfInBounds_toArray, List.set_cons_zero, List.set_cons_succ, i64_w, i32_w]
         rfl
       refine pure_ (i := 3) (N := some 63) (v := ?_) (a' := ?_) #[true, true, true, true, false, false, false] rfl rfl (any_of HT_.out (by kernel_rfl)) (fun _ _ _ h => h) (Or.inl ⟨by rfl, ?_⟩) ?_ ?_
       rotate_left
       · intro w'
         go_simp
         with_reducible rfl
       rotate_left
       · simp only [Act.put, List.setIfInBounds_toArray, List.set_cons_zero, List.set_cons_succ, i64_w, i32_w]
         rfl
       refine pure_ (i := 5) (N := some 2) (v := ?_) (a' := ?_) #[true, true, true, true, false, true, false] rfl rfl (any_of HT_.out (by kernel_rfl)) (fun _ _ _ h => h) (Or.inl ⟨by rfl, ?_⟩) ?_ ?_
       rotate_left
       · intro w'
         go_simp
         with_reducible rfl
       rotate_left
       · simp only [Act.put, List.setIfInBounds_toArray, List.set_cons_zero, List.set_cons_succ, i64_w, i32_w]
         rfl
       refine take_ (i := 4) (N := some 64) (v := ?_) (a' := ?_) #[true, true, true, true, true, true, false] rfl rfl (take_ofW HT_.out HW_.out (by kernel_rfl)) (fun _ _ _ h => h) (Or.inl ⟨by rfl, ?_⟩) hHeld ?_ ?_
       rotate_left
       · rintro w' ⟨s0, s1⟩
         go_simp
         with_reducible rfl
       rotate_left
       · simp only [Act.put, List.setIfInBounds_toArray, List.set_cons_zero, List.set_cons_succ, i64_w, i32_w]
         rfl
       refine last_ (i := 6) (N := none) #[true, true, true, true, true, true, true] rfl rfl (by kernel_rfl) (by decide) (fun K hK => ?_)
       have r0 : w5.cell? ⟨gr, 0, none⟩ = some (.slice none 0 0) := (blk_cell HF.out.br 0).trans rfl
       have f0 := blk_frozen HF.out.br 0
       have r1_ : w5.cell? ⟨gr, 1, none⟩ = some (.slice none 0 0) := (blk_cell HF.out.br 1).trans rfl
       have f1 := blk_frozen HF.out.br 1
       refine skip_ (w1 := ?_) (by rfl) rfl ?_ ?_
       rotate_left
       · go_simp
         rfl
       refine hK.out _ _ ?_
       clear hK K
       refine done_ (done_of HT_.out (by kernel_rfl)) ?_
       try go_wp2
       refine bodyPost_ret (results_list (rs := [.tmp 2, .cell 3 33]) rfl (by simp) (.tmp (.cell gr 33 #[.slice (some ⟨gL, 0, none⟩) l0.length cL, .slice (some ⟨gB, 0, none⟩) l0.length cB] (0, 0) _ rfl (blk_put (cs := #[.slice (some ⟨gL, 0, none⟩) l0.length cL, .slice none 0 0]) (blk_put (cs := #[.slice none 0 0, .slice none 0 0]) HF.out.br 0 _ rfl) 1 _ rfl) Try.underlying33 rfl (by kernel_rfl) .nil))) rfl ?_
       have ne : ∀ {k a b c : Nat} {x1 x2 c1_ c2_ : Nat}, k = a → a ≠ b → a ≠ c → some k ≠ (Value.slice (some ⟨b, 0, none⟩) x1 c1_).ownBlock ∧ some k ≠ (Value.slice (some ⟨c, 0, none⟩) x2 c2_).ownBlock := fun e h1 h2 => by subst e; exact ⟨by simpa [Value.ownBlock] using h1, by simpa [Value.ownBlock] using h2⟩
       have a_ := HA.out
       have g_ := HG.out
       exact ⟨_, _, _, rfl, Kd.R_mono (Kd.R_far (p := ⟨gr, 1, none⟩) (Kd.R_far (p := ⟨gr, 0, none⟩) HW.out (fun k hk => by rw [hk]; exact g_.2.2.2.2) _) (fun k hk => by rw [hk]; exact g_.2.2.2.2) _) (fun k hk => ne hk g_.2.1 g_.2.2.1), Kd.R_mono (Kd.R_far (p := ⟨gr, 1, none⟩) (Kd.R_far (p := ⟨gr, 0, none⟩) HF.out.rL (fun k hk => by rw [hk]; exact a_.1.1.2.2) _) (fun k hk => by rw [hk]; exact a_.1.1.2.2) _) (fun k hk => ne hk (Ne.symm g_.2.1) a_.1.1.1), Kd.R_mono (Kd.R_far (p := ⟨gr, 1, none⟩) (Kd.R_far (p := ⟨gr, 0, none⟩) HF.out.rB (fun k hk => by rw [hk]; exact a_.1.2.1.2) _) (fun k hk => by rw [hk]; exact a_.1.2.1.2) _) (fun k hk => ne hk (Ne.symm g_.2.2.1) (Ne.symm a_.1.1.1)), below_set (below_set HF.out.bl a_.2.2.2.2) a_.2.2.2.2⟩

/-! ### spec_CheapestFit: function 33 -/
def spec_CheapestFit.f (k : Nat) (l0 : List (List Int)) : Option (List Int × List Int × List Int × Bool) := (spec_GoodCosts.f k l0).bind fun t137 => (if t137 = true then ((spec_l9Fit.f l0).bind fun bt138 => (some (bt138.1, bt138.2.1, bt138.2.2, true))) else (some (([] : List Int), ([] : List Int), ([] : List Int), false)))
theorem spec_CheapestFit.mono : ∀ a0 k, LeO (spec_CheapestFit.f k a0) (spec_CheapestFit.f (k + 1) a0) := by
  intro a0 k
  unfold spec_CheapestFit.f
  repeat' first
      | (with_reducible exact spec_GoodCosts.mono _ _)
      | (with_reducible exact LeO.refl _)
      | (with_reducible exact LeO.none _)
      | (with_reducible refine LeO.ite ?_ ?_)
      | (with_reducible refine LeO.bind ?_ (fun _ => ?_))
      | exact spec_GoodCosts.mono _ _
      | exact LeO.none _
      | refine LeO.ite ?_ ?_
      | refine LeO.bind ?_ (fun _ => ?_)
set_option maxHeartbeats 8000000 in
set_option maxRecDepth 100000 in
theorem spec_CheapestFit.calls (k : Nat) (A0 : Option Addr) (c0 : Nat) (l0 : List (List Int)) (r1 : List Int) (r2 : List Int) (r3 : List Int) (r4 : Bool) (w : World) (hr0 : Kd.C (Kd.slice 3 (Kd.int .i64)) w A0 l0.length l0) (hc0 : l0.length ≤ c0) (h : spec_CheapestFit.f k l0 = some (r1, r2, r3, r4)) :
    Calls Try.prog 33 #[.slice A0 l0.length c0] w fun e w' => ∃ v0_ v1_ v2_ : Value, e = .returned (.tuple #[v0_, .agg #[v1_, v2_], .bool r4]) ∧ Kd.R (Kd.int .i64) 3 w' w.heap.size (fun k_ => some k_ ≠ (v1_ : Value).ownBlock ∧ some k_ ≠ (v2_ : Value).ownBlock) v0_ r1 ∧ Kd.R (Kd.int .i64) 3 w' w.heap.size (fun k_ => some k_ ≠ (v0_ : Value).ownBlock ∧ some k_ ≠ (v2_ : Value).ownBlock) v1_ r2 ∧ Kd.R (Kd.int .i64) 3 w' w.heap.size (fun k_ => some k_ ≠ (v0_ : Value).ownBlock ∧ some k_ ≠ (v1_ : Value).ownBlock) v2_ r3 ∧ Below w.heap.size w w' := by
  have hu33 := Try.underlying33
  have HR0 := Aside0.mk hr0
  have HC0 := Aside0.mk hc0
  clear hr0 hc0
  have HB := Aside0.mk (Below.refl w.heap.size w)
  have H : ((spec_GoodCosts.f k l0).bind fun t137 => (if t137 = true then ((spec_l9Fit.f l0).bind fun bt138 => (some (bt138.1, bt138.2.1, bt138.2.2, true))) else (some (([] : List Int), ([] : List Int), ([] : List Int), false)))) = some (r1, r2, r3, r4) := h
  clear h
  replace H := Option.bind_eq_some_iff.mp H
  obtain ⟨t137, A20, H⟩ := H
  replace H : (if t137 = true then ((spec_l9Fit.f l0).bind fun bt138 => (some (bt138.1, bt138.2.1, bt138.2.2, true))) else (some (([] : List Int), ([] : List Int), ([] : List Int), false))) = some (r1, r2, r3, r4) := H
  have A2 := Aside0.mk A20
  clear A20
  by_cases c3 : t137 = true
  · subst c3
    have H1 : ((spec_l9Fit.f l0).bind fun bt138 => (some (bt138.1, bt138.2.1, bt138.2.2, true))) = some (r1, r2, r3, r4) := by rw [if_pos rfl] at H; exact H
    clear H
    have H := H1
    clear H1
    replace H := Option.bind_eq_some_iff.mp H
    obtain ⟨⟨t138, t141, t144⟩, A40, H⟩ := H
    replace H : (some (t138, t141, t144, true)) = some (r1, r2, r3, r4) := H
    have A4 := Aside0.mk A40
    clear A40
    simp only [Option.some.injEq, Prod.mk.injEq] at H
    obtain ⟨rfl, rfl, rfl, rfl⟩ := H
    go_enter Try.func33, Try.ntmps33
    try go_wp2_with (first | ((with_reducible refine gate_dst (N := 3) rfl ?_); refine box_event ?hg (N := 3) ?hd (cs := #[.slice none 0 0, .slice none 0 0]) (t := 33) ?hr ?_; (case hd => rfl); (case hg => rfl); (case hr => first | (go_simp; done) | (go_simp; rfl)); intro gb136 hg w5 hbox hb; have n0_ := Aside0.mk (below_step (by repeat (first | (with_reducible first | exact HB.out | apply below_alloc | apply pw_below_drewN | apply below_drew1) | exact HB.out)) hb); have n1_ := Aside0.mk (hbox); have n2_ := Aside0.mk ((by rw [hg]; exact (below_size (by repeat (first | (with_reducible first | exact HB.out | apply below_alloc | apply pw_below_drewN | apply below_drew1) | exact HB.out))) : w.heap.size ≤ gb136)); have n3_ := Aside0.mk ((by rw [hg]; exact (below_size (by repeat (first | (with_reducible first | exact HB.out | apply below_alloc | apply pw_below_drewN | apply below_drew1) | exact HB.out))) : w.heap.size ≤ gb136)); clear HB; have HB := n0_; have BK136 := n1_; have GW136 := n2_; have GE136 := n3_; clear n0_ n1_ n2_ n3_; clear hb hbox hg) | ((with_reducible refine gate_callee (f := 12) rfl ?_); refine goesL_ (some 8) rfl rfl Try.func12 (by kernel_rfl) rfl #[.slice A0 l0.length c0] rfl (by (try simp only [List.map_toArray, List.map_cons, List.map_nil]); first | done | rfl | (simp only [List.length_drop, List.length_take]; rfl)) ?_; (with_reducible refine (spec_GoodCosts.calls k _ _ l0 true _ ?side1 ?side2 A2.out).mono ?_); (case side1 => repeat (first | exact (Kd.C_below HR0.out HB.out) | (with_reducible refine Kd.C_alloc ?_ _) | (with_reducible refine Kd.C_drewN ?_ _) | (with_reducible refine Kd.C_drew ?_))); (case side2 => exact HC0.out); rintro e w' ⟨rfl, ⟨nd, rfl⟩⟩; refine ⟨_, rfl, ?_⟩; (try (rw [drewN_self w5]; generalize hq_ : World.drewN w5 _ = w5; have n0_ : Aside0 (w5.heap[gb136]? = some (.cells #[.slice none 0 0, .slice none 0 0] 33 (0, 0))) := ⟨by rw [← hq_]; exact (by (with_reducible repeat (first | refine blk_drewN ?_ _ | refine blk_drew ?_ | refine blk_alloc ?_ _)); exact BK136.out)⟩; have n1_ : Aside0 (Below w.heap.size w w5) := ⟨by rw [← hq_]; exact (by repeat (first | (with_reducible first | exact HB.out | apply below_alloc | apply pw_below_drewN | apply below_drew1 | refine below_set ?_ GE136.out) | exact HB.out))⟩; clear BK136 HB hq_; have BK136 := n0_; have HB := n1_; clear n0_ n1_))) | ((with_reducible refine gate_callee (f := 63) rfl ?_); refine goesL_ (some 13) rfl rfl Try.func63 (by kernel_rfl) rfl #[.slice A0 l0.length c0] rfl (by (try simp only [List.map_toArray, List.map_cons, List.map_nil]); first | done | rfl | (simp only [List.length_drop, List.length_take]; rfl)) ?_; (with_reducible refine (spec_l9Fit.calls _ _ l0 t138 t141 t144 _ ?side1 ?side2 A4.out).mono ?_); (case side1 => repeat (first | exact (Kd.C_below HR0.out HB.out) | (with_reducible refine Kd.C_alloc ?_ _) | (with_reducible refine Kd.C_drewN ?_ _) | (with_reducible refine Kd.C_drew ?_))); (case side2 => exact HC0.out); rintro e w6 ⟨v139, v142, v145, rfl, ho0, ho1, ho2, hb⟩; refine ⟨_, rfl, ?_⟩; have n0_ := Aside0.mk (Kd.R_lower ho0 (below_size (by repeat (first | (with_reducible first | exact HB.out | apply below_alloc | apply pw_below_drewN | apply below_drew1 | refine below_set ?_ GE136.out) | exact HB.out)))); have n1_ := Aside0.mk (Kd.R_lower ho1 (below_size (by repeat (first | (with_reducible first | exact HB.out | apply below_alloc | apply pw_below_drewN | apply below_drew1 | refine below_set ?_ GE136.out) | exact HB.out)))); have n2_ := Aside0.mk (Kd.R_lower ho2 (below_size (by repeat (first | (with_reducible first | exact HB.out | apply below_alloc | apply pw_below_drewN | apply below_drew1 | refine below_set ?_ GE136.out) | exact HB.out)))); have n3_ := Aside0.mk (blk_below (g := gb136) (o := .cells #[.slice none 0 0, .slice none 0 0] 33 (0, 0)) (by (with_reducible repeat (first | refine blk_drewN ?_ _ | refine blk_drew ?_ | refine blk_alloc ?_ _)); exact BK136.out) hb); have n4_ := Aside0.mk (below_step (by repeat (first | (with_reducible first | exact HB.out | apply below_alloc | apply pw_below_drewN | apply below_drew1 | refine below_set ?_ GE136.out) | exact HB.out)) hb); clear BK136; clear HB; have HO140 := n0_; have HO143 := n1_; have HO146 := n2_; have BK136 := n3_; have HB := n4_; clear n0_ n1_ n2_ n3_ n4_; (try clear hb); (try clear hb2); (try clear hk); (try clear hi); (try clear ho0); (try clear ho1); (try clear ho2)) | ((with_reducible refine gate_dst (N := 6) rfl ?_); refine box_event ?hg (N := 6) ?hd (cs := #[.slice none 0 0, .slice none 0 0]) (t := 33) ?hr ?_; (case hd => rfl); (case hg => rfl); (case hr => first | (go_simp; done) | (go_simp; rfl)); intro gb147 hg w7 hbox hb; have n0_ := Aside0.mk (Kd.R_below (by (with_reducible repeat (first | apply Kd.R_alloc | apply Kd.R_drewN | apply Kd.R_drew)); exact HO140.out) hb); have n1_ := Aside0.mk (Kd.R_below (by (with_reducible repeat (first | apply Kd.R_alloc | apply Kd.R_drewN | apply Kd.R_drew)); exact HO143.out) hb); have n2_ := Aside0.mk (Kd.R_below (by (with_reducible repeat (first | apply Kd.R_alloc | apply Kd.R_drewN | apply Kd.R_drew)); exact HO146.out) hb); have n3_ := Aside0.mk (blk_below (g := gb136) (o := .cells #[.slice none 0 0, .slice none 0 0] 33 (0, 0)) (by (with_reducible repeat (first | refine blk_drewN ?_ _ | refine blk_drew ?_ | refine blk_alloc ?_ _)); exact BK136.out) hb); have n4_ := Aside0.mk (below_step (by repeat (first | (with_reducible first | exact HB.out | apply below_alloc | apply pw_below_drewN | apply below_drew1 | refine below_set ?_ GE136.out) | exact HB.out)) hb); have n5_ := Aside0.mk (hbox); have n6_ := Aside0.mk ((by rw [hg]; exact (below_size (by repeat (first | (with_reducible first | exact HB.out | apply below_alloc | apply pw_below_drewN | apply below_drew1 | refine below_set ?_ GE136.out) | exact HB.out))) : w.heap.size ≤ gb147)); have n7_ := Aside0.mk ((by rw [hg]; exact (below_size (by repeat (first | (with_reducible first | exact HB.out | apply below_alloc | apply pw_below_drewN | apply below_drew1 | refine below_set ?_ GE136.out) | exact HB.out))) : w.heap.size ≤ gb147)); have n8_ := Aside0.mk ((by rw [hg]; exact Nat.ne_of_lt (blk_lt (g := gb136) (o := .cells #[.slice none 0 0, .slice none 0 0] 33 (0, 0)) (by (with_reducible repeat (first | refine blk_drewN ?_ _ | refine blk_drew ?_ | refine blk_alloc ?_ _)); exact BK136.out)) : gb136 ≠ gb147)); have n9_ := Aside0.mk ((by rw [hg]; exact Nat.ne_of_gt (blk_lt (g := gb136) (o := .cells #[.slice none 0 0, .slice none 0 0] 33 (0, 0)) (by (with_reducible repeat (first | refine blk_drewN ?_ _ | refine blk_drew ?_ | refine blk_alloc ?_ _)); exact BK136.out)) : gb147 ≠ gb136)); clear HO140; clear HO143; clear HO146; clear BK136; clear HB; have HO140 := n0_; have HO143 := n1_; have HO146 := n2_; have BK136 := n3_; have HB := n4_; have BK147 := n5_; have GW147 := n6_; have GE147 := n7_; have NB136_147 := n8_; have NB147_136 := n9_; clear n0_ n1_ n2_ n3_ n4_ n5_ n6_ n7_ n8_ n9_; clear hb hbox hg; obtain ⟨Ao8, co8, eo8⟩ := Kd.R_slice HO143.out; subst eo8; have hnb9 := NB147_136.out; have hnc9 := NB136_147.out; have hcz10_0 : w7.cell? ⟨gb147, 0, none⟩ = some (.slice none 0 0) := (blk_cell BK147.out 0).trans rfl; have hcz10_1 : w7.cell? ⟨gb147, 1, none⟩ = some (.slice none 0 0) := (blk_cell BK147.out 1).trans rfl; have hfz10_0 := blk_frozen BK147.out 0; have hfz10_1 := blk_frozen BK147.out 1; obtain ⟨Ao11, co11, eo11⟩ := Kd.R_slice HO146.out; subst eo11))
    have n0_ : Aside0 (Kd.R (Kd.int .i64) 3 ((w7.setCell ⟨gb147, 0, none⟩ (.slice Ao8 t141.length co8)).setCell ⟨gb147, 1, none⟩ (.slice Ao11 t144.length co11)) w.heap.size (fun k_ => some k_ ≠ (.slice Ao8 t141.length co8 : Value).ownBlock ∧ some k_ ≠ (.slice Ao11 t144.length co11 : Value).ownBlock) v139 t138) := ⟨by (with_reducible repeat (first | apply Kd.R_alloc | apply Kd.R_drewN | apply Kd.R_drew)); exact Kd.R_mono (Kd.R_far (p := ⟨gb147, 1, none⟩) (Kd.R_far (p := ⟨gb147, 0, none⟩) (Kd.R_types HO140.out BK147.out (by decide)) (fun _ hk => hk.2) (.slice Ao8 t141.length co8)) (fun _ hk => hk.2) (.slice Ao11 t144.length co11)) (fun _ hk => ⟨hk.1.1, hk.1.2⟩)⟩
    have n1_ : Aside0 (Kd.R (Kd.int .i64) 3 ((w7.setCell ⟨gb147, 0, none⟩ (.slice Ao8 t141.length co8)).setCell ⟨gb147, 1, none⟩ (.slice Ao11 t144.length co11)) w.heap.size (fun k_ => some k_ ≠ (v139 : Value).ownBlock ∧ some k_ ≠ (.slice Ao11 t144.length co11 : Value).ownBlock) (.slice Ao8 t141.length co8) t141) := ⟨by (with_reducible repeat (first | apply Kd.R_alloc | apply Kd.R_drewN | apply Kd.R_drew)); exact Kd.R_mono (Kd.R_far (p := ⟨gb147, 1, none⟩) (Kd.R_far (p := ⟨gb147, 0, none⟩) (Kd.R_types HO143.out BK147.out (by decide)) (fun _ hk => hk.2) (.slice Ao8 t141.length co8)) (fun _ hk => hk.2) (.slice Ao11 t144.length co11)) (fun _ hk => ⟨hk.1.1, hk.1.2⟩)⟩
    have n2_ : Aside0 (Kd.R (Kd.int .i64) 3 ((w7.setCell ⟨gb147, 0, none⟩ (.slice Ao8 t141.length co8)).setCell ⟨gb147, 1, none⟩ (.slice Ao11 t144.length co11)) w.heap.size (fun k_ => some k_ ≠ (v139 : Value).ownBlock ∧ some k_ ≠ (.slice Ao8 t141.length co8 : Value).ownBlock) (.slice Ao11 t144.length co11) t144) := ⟨by (with_reducible repeat (first | apply Kd.R_alloc | apply Kd.R_drewN | apply Kd.R_drew)); exact Kd.R_mono (Kd.R_far (p := ⟨gb147, 1, none⟩) (Kd.R_far (p := ⟨gb147, 0, none⟩) (Kd.R_types HO146.out BK147.out (by decide)) (fun _ hk => hk.2) (.slice Ao8 t141.length co8)) (fun _ hk => hk.2) (.slice Ao11 t144.length co11)) (fun _ hk => ⟨hk.1.1, hk.1.2⟩)⟩
    have n3_ : Aside0 (((w7.setCell ⟨gb147, 0, none⟩ (.slice Ao8 t141.length co8)).setCell ⟨gb147, 1, none⟩ (.slice Ao11 t144.length co11)).heap[gb136]? = some (.cells #[.slice none 0 0, .slice none 0 0] 33 (0, 0))) := ⟨by (with_reducible repeat (first | refine blk_drewN ?_ _ | refine blk_drew ?_ | refine blk_alloc ?_ _)); refine blk_far ?_ NB136_147.out _; (with_reducible repeat (first | refine blk_drewN ?_ _ | refine blk_drew ?_ | refine blk_alloc ?_ _)); refine blk_far ?_ NB136_147.out _; (with_reducible repeat (first | refine blk_drewN ?_ _ | refine blk_drew ?_ | refine blk_alloc ?_ _)); exact BK136.out⟩
    have n4_ : Aside0 (((w7.setCell ⟨gb147, 0, none⟩ (.slice Ao8 t141.length co8)).setCell ⟨gb147, 1, none⟩ (.slice Ao11 t144.length co11)).heap[gb147]? = some (.cells #[.slice Ao8 t141.length co8, .slice Ao11 t144.length co11] 33 (0, 0))) := ⟨by (with_reducible repeat (first | refine blk_drewN ?_ _ | refine blk_drew ?_ | refine blk_alloc ?_ _)); refine blk_put (cs := #[.slice Ao8 t141.length co8, .slice none 0 0]) ?_ 1 _ rfl; (with_reducible repeat (first | refine blk_drewN ?_ _ | refine blk_drew ?_ | refine blk_alloc ?_ _)); refine blk_put (cs := #[.slice none 0 0, .slice none 0 0]) ?_ 0 _ rfl; (with_reducible repeat (first | refine blk_drewN ?_ _ | refine blk_drew ?_ | refine blk_alloc ?_ _)); exact BK147.out⟩
    have n5_ : Aside0 (Below w.heap.size w ((w7.setCell ⟨gb147, 0, none⟩ (.slice Ao8 t141.length co8)).setCell ⟨gb147, 1, none⟩ (.slice Ao11 t144.length co11))) := ⟨by repeat (first | (with_reducible first | exact HB.out | apply below_alloc | apply pw_below_drewN | apply below_drew1 | refine below_set ?_ GE136.out | refine below_set ?_ GE147.out) | exact HB.out)⟩
    (try clear HO140)
    (try clear HO143)
    (try clear HO146)
    (try clear BK136)
    (try clear BK147)
    (try clear HB)
    generalize ((w7.setCell ⟨gb147, 0, none⟩ (.slice Ao8 t141.length co8)).setCell ⟨gb147, 1, none⟩ (.slice Ao11 t144.length co11)) = w12 at n0_ n1_ n2_ n3_ n4_ n5_ ⊢
    have HO140 := n0_
    have HO143 := n1_
    have HO146 := n2_
    have BK136 := n3_
    have BK147 := n4_
    have HB := n5_
    clear n0_ n1_ n2_ n3_ n4_ n5_
    have n0_ := Aside0.mk (Kd.R_drew HO140.out)
    have n1_ := Aside0.mk (Kd.R_drew HO143.out)
    have n2_ := Aside0.mk (Kd.R_drew HO146.out)
    have n3_ := Aside0.mk (blk_drew BK136.out)
    have n4_ := Aside0.mk (blk_drew BK147.out)
    have n5_ := Aside0.mk (below_drew1 HB.out)
    clear HO140
    clear HO143
    clear HO146
    clear BK136
    clear BK147
    clear HB
    have HO140 := n0_
    have HO143 := n1_
    have HO146 := n2_
    have BK136 := n3_
    have BK147 := n4_
    have HB := n5_
    clear n0_ n1_ n2_ n3_ n4_ n5_
    refine start_ (n := 5) (S := fun w' => w'.cell? ⟨gb147, 0, none⟩ = some (.slice Ao8 t141.length co8) ∧ w'.cell? ⟨gb147, 1, none⟩ = some (.slice Ao11 t144.length co11)) (ds := []) #[false, false, false, false, false] (by kernel_rfl) rfl rfl ⟨(blk_cell BK147.out 0).trans rfl, (blk_cell BK147.out 1).trans rfl⟩ (fun hHeld => ?_)
    generalize w12.drew = w13 at HO140 HO143 HO146 BK136 BK147 HB hHeld ⊢
    refine pure_ (i := 0) (N := some 16) (v := ?_) (a' := ?_) #[true, false, false, false, false] rfl rfl (by kernel_rfl) (fun _ _ _ h => h) (Or.inl ⟨by rfl, ?_⟩) ?_ ?_
    rotate_left
    · intro w'
      go_simp
      with_reducible rfl
    rotate_left
    · simp only [Act.put, List.setIfInBounds_toArray, List.set_cons_zero, List.set_cons_succ, i64_w, i32_w]
      rfl
    refine pure_ (i := 2) (N := some 2) (v := ?_) (a' := ?_) #[true, false, true, false, false] rfl rfl (by kernel_rfl) (fun _ _ _ h => h) (Or.inl ⟨by rfl, ?_⟩) ?_ ?_
    rotate_left
    · intro w'
      go_simp
      with_reducible rfl
    rotate_left
    · simp only [Act.put, List.setIfInBounds_toArray, List.set_cons_zero, List.set_cons_succ, i64_w, i32_w]
      rfl
    refine take_ (i := 1) (N := some 17) (v := ?_) (a' := ?_) #[true, true, true, false, false] rfl rfl (by kernel_rfl) (fun _ _ _ h => h) (Or.inl ⟨by rfl, ?_⟩) hHeld ?_ ?_
    rotate_left
    · rintro w' ⟨s0, s1⟩
      go_simp
      with_reducible rfl
    rotate_left
    · simp only [Act.put, List.setIfInBounds_toArray, List.set_cons_zero, List.set_cons_succ, i64_w, i32_w]
      rfl
    refine one_ (i := 3) (N := none) #[true, true, true, true, false] rfl rfl (by kernel_rfl) (by decide) (fun K hK => ?_)
    have hs14 : w13.cell? ⟨gb136, 0, none⟩ = some (.slice none 0 0) := (blk_cell BK136.out 0).trans rfl
    have hfs14 := blk_frozen BK136.out 0
    have hns14_1 := NB147_136.out
    have hms14_1 := NB136_147.out
    have hs15 : w13.cell? ⟨gb136, 1, none⟩ = some (.slice none 0 0) := (blk_cell BK136.out 1).trans rfl
    have hfs15 := blk_frozen BK136.out 1
    have hns15_1 := NB147_136.out
    have hms15_1 := NB136_147.out
    refine skip_ (w1 := ?_) (by rfl) rfl ?_ ?_
    rotate_left
    · go_simp
      rfl
    refine hK.out _ _ ⟨((cell_far (p := ⟨gb136, _, none⟩) NB147_136.out _).trans (((cell_far (p := ⟨gb136, _, none⟩) NB147_136.out _).trans (hHeld.1)))), ((cell_far (p := ⟨gb136, _, none⟩) NB147_136.out _).trans (((cell_far (p := ⟨gb136, _, none⟩) NB147_136.out _).trans (hHeld.2))))⟩ (fun hHeld => ?_)
    clear hK K
    refine pure_ (i := 4) (N := some 4) (v := ?_) (a' := ?_) #[true, true, true, true, true] rfl rfl (by kernel_rfl) (fun _ _ _ h => h) (Or.inl ⟨by rfl, ?_⟩) ?_ ?_
    rotate_left
    · intro w'
      go_simp
      with_reducible rfl
    rotate_left
    · simp only [Act.put, List.setIfInBounds_toArray, List.set_cons_zero, List.set_cons_succ, i64_w, i32_w]
      rfl
    refine done_ (by kernel_rfl) ?_
    try go_wp2
    refine bodyPost_ret (results_list (rs := [.tmp 2, .cell 3 33, .tmp 4]) rfl (by simp) (.tmp (.cell gb136 33 #[.slice Ao8 t141.length co8, .slice Ao11 t144.length co11] (0, 0) _ rfl (by (with_reducible repeat (first | refine blk_drewN ?_ _ | refine blk_drew ?_ | refine blk_alloc ?_ _)); refine blk_put (cs := #[.slice Ao8 t141.length co8, .slice none 0 0]) ?_ 1 _ rfl; (with_reducible repeat (first | refine blk_drewN ?_ _ | refine blk_drew ?_ | refine blk_alloc ?_ _)); refine blk_put (cs := #[.slice none 0 0, .slice none 0 0]) ?_ 0 _ rfl; (with_reducible repeat (first | refine blk_drewN ?_ _ | refine blk_drew ?_ | refine blk_alloc ?_ _)); exact BK136.out) Try.underlying33 rfl (by kernel_rfl) (.tmp .nil)))) rfl ?_
    exact ⟨_, _, _, by first | rfl | (simp [errW_none, errW_some] <;> rfl) | (simp [*, errW_none, errW_some] <;> rfl), by (with_reducible repeat (first | apply Kd.R_alloc | apply Kd.R_drewN | apply Kd.R_drew)); exact Kd.R_mono (Kd.R_far (p := ⟨gb136, 1, none⟩) (Kd.R_far (p := ⟨gb136, 0, none⟩) (Kd.R_types HO140.out BK136.out (by decide)) (fun _ hk => hk.2) (.slice Ao8 t141.length co8)) (fun _ hk => hk.2) (.slice Ao11 t144.length co11)) (fun _ hk => ⟨hk.1.1, hk.1.2⟩), by (with_reducible repeat (first | apply Kd.R_alloc | apply Kd.R_drewN | apply Kd.R_drew)); exact Kd.R_mono (Kd.R_far (p := ⟨gb136, 1, none⟩) (Kd.R_far (p := ⟨gb136, 0, none⟩) (Kd.R_types HO143.out BK136.out (by decide)) (fun _ hk => hk.2) (.slice Ao8 t141.length co8)) (fun _ hk => hk.2) (.slice Ao11 t144.length co11)) (fun _ hk => ⟨hk.1.1, hk.1.2⟩), by (with_reducible repeat (first | apply Kd.R_alloc | apply Kd.R_drewN | apply Kd.R_drew)); exact Kd.R_mono (Kd.R_far (p := ⟨gb136, 1, none⟩) (Kd.R_far (p := ⟨gb136, 0, none⟩) (Kd.R_types HO146.out BK136.out (by decide)) (fun _ hk => hk.2) (.slice Ao8 t141.length co8)) (fun _ hk => hk.2) (.slice Ao11 t144.length co11)) (fun _ hk => ⟨hk.1.1, hk.1.2⟩), by repeat (first | (with_reducible first | exact HB.out | apply below_alloc | apply pw_below_drewN | apply below_drew1 | refine below_set ?_ GE136.out | refine below_set ?_ GE147.out) | exact HB.out)⟩
  · replace c3 := Bool.eq_false_iff.mpr c3
    subst c3
    have H1 : (some (([] : List Int), ([] : List Int), ([] : List Int), false)) = some (r1, r2, r3, r4) := by rw [if_neg (show ¬ (false = true) by decide)] at H; exact H
    clear H
    have H := H1
    clear H1
    simp only [Option.some.injEq, Prod.mk.injEq] at H
    obtain ⟨rfl, rfl, rfl, rfl⟩ := H
    go_enter Try.func33, Try.ntmps33
    go_wp2_with (first | ((with_reducible refine gate_dst (N := 3) rfl ?_); refine box_event ?hg (N := 3) ?hd (cs := #[.slice none 0 0, .slice none 0 0]) (t := 33) ?hr ?_; (case hd => rfl); (case hg => rfl); (case hr => first | (go_simp; done) | (go_simp; rfl)); intro gb136 hg w16 hbox hb; have n0_ := Aside0.mk (below_step (by repeat (first | (with_reducible first | exact HB.out | apply below_alloc | apply pw_below_drewN | apply below_drew1) | exact HB.out)) hb); have n1_ := Aside0.mk (hbox); have n2_ := Aside0.mk ((by rw [hg]; exact (below_size (by repeat (first | (with_reducible first | exact HB.out | apply below_alloc | apply pw_below_drewN | apply below_drew1) | exact HB.out))) : w.heap.size ≤ gb136)); have n3_ := Aside0.mk ((by rw [hg]; exact (below_size (by repeat (first | (with_reducible first | exact HB.out | apply below_alloc | apply pw_below_drewN | apply below_drew1) | exact HB.out))) : w.heap.size ≤ gb136)); clear HB; have HB := n0_; have BK136 := n1_; have GW136 := n2_; have GE136 := n3_; clear n0_ n1_ n2_ n3_; clear hb hbox hg) | ((with_reducible refine gate_callee (f := 12) rfl ?_); refine goesL_ (some 8) rfl rfl Try.func12 (by kernel_rfl) rfl #[.slice A0 l0.length c0] rfl (by (try simp only [List.map_toArray, List.map_cons, List.map_nil]); first | done | rfl | (simp only [List.length_drop, List.length_take]; rfl)) ?_; (with_reducible refine (spec_GoodCosts.calls k _ _ l0 false _ ?side1 ?side2 A2.out).mono ?_); (case side1 => repeat (first | exact (Kd.C_below HR0.out HB.out) | (with_reducible refine Kd.C_alloc ?_ _) | (with_reducible refine Kd.C_drewN ?_ _) | (with_reducible refine Kd.C_drew ?_))); (case side2 => exact HC0.out); rintro e w' ⟨rfl, ⟨nd, rfl⟩⟩; refine ⟨_, rfl, ?_⟩; (try (rw [drewN_self w16]; generalize hq_ : World.drewN w16 _ = w16; have n0_ : Aside0 (w16.heap[gb136]? = some (.cells #[.slice none 0 0, .slice none 0 0] 33 (0, 0))) := ⟨by rw [← hq_]; exact (by (with_reducible repeat (first | refine blk_drewN ?_ _ | refine blk_drew ?_ | refine blk_alloc ?_ _)); exact BK136.out)⟩; have n1_ : Aside0 (Below w.heap.size w w16) := ⟨by rw [← hq_]; exact (by repeat (first | (with_reducible first | exact HB.out | apply below_alloc | apply pw_below_drewN | apply below_drew1 | refine below_set ?_ GE136.out) | exact HB.out))⟩; clear BK136 HB hq_; have BK136 := n0_; have HB := n1_; clear n0_ n1_)); have hcz17_0 : w16.cell? ⟨gb136, 0, none⟩ = some (.slice none 0 0) := (blk_cell BK136.out 0).trans rfl; have hcz17_1 : w16.cell? ⟨gb136, 1, none⟩ = some (.slice none 0 0) := (blk_cell BK136.out 1).trans rfl; have hfz17_0 := blk_frozen BK136.out 0; have hfz17_1 := blk_frozen BK136.out 1))
    refine bodyPost_ret (results_list (rs := [.tmp 2, .cell 3 33, .tmp 4]) rfl (by simp) (.tmp (.cell gb136 33 #[.slice none 0 0, .slice none 0 0] (0, 0) _ rfl (by (with_reducible repeat (first | refine blk_drewN ?_ _ | refine blk_drew ?_ | refine blk_alloc ?_ _)); refine blk_put (cs := #[.slice none 0 0, .slice none 0 0]) ?_ 1 _ rfl; (with_reducible repeat (first | refine blk_drewN ?_ _ | refine blk_drew ?_ | refine blk_alloc ?_ _)); refine blk_put (cs := #[.slice none 0 0, .slice none 0 0]) ?_ 0 _ rfl; (with_reducible repeat (first | refine blk_drewN ?_ _ | refine blk_drew ?_ | refine blk_alloc ?_ _)); exact BK136.out) Try.underlying33 rfl (by kernel_rfl) (.tmp .nil)))) rfl ?_
    exact ⟨_, _, _, by first | rfl | (simp [errW_none, errW_some] <;> rfl) | (simp [*, errW_none, errW_some] <;> rfl), by first | exact Kd.R_nil _ _ _ _ _ | exact Kd.N_nil _ _ _ _ _ | exact Kd.V_nil _ _ _ _ _ | exact Kd.Q_nil _ _ _ _ _ | exact Kd.S_nil _ _ _ _ _, by first | exact Kd.R_nil _ _ _ _ _ | exact Kd.N_nil _ _ _ _ _ | exact Kd.V_nil _ _ _ _ _ | exact Kd.Q_nil _ _ _ _ _ | exact Kd.S_nil _ _ _ _ _, by first | exact Kd.R_nil _ _ _ _ _ | exact Kd.N_nil _ _ _ _ _ | exact Kd.V_nil _ _ _ _ _ | exact Kd.Q_nil _ _ _ _ _ | exact Kd.S_nil _ _ _ _ _, by repeat (first | (with_reducible first | exact HB.out | apply below_alloc | apply pw_below_drewN | apply below_drew1 | refine below_set ?_ GE136.out) | exact HB.out)⟩

/-! ### impl_within: function 49 -/
def impl_within.f (a0 : Int) (a1 : Int) (a2 : Int) : Option (Bool) := if a0 ≥ a1 then (some (decide (a0 ≤ a2))) else (some false)
set_option maxHeartbeats 8000000 in
set_option maxRecDepth 100000 in
theorem impl_within.calls (a0 : Int) (a1 : Int) (a2 : Int) (r : Bool) (w : World) (h : impl_within.f a0 a1 a2 = some r) :
    Calls Try.prog 49 #[.int .i64 a0, .int .i64 a1, .int .i64 a2] w fun e w' => e = .returned (.bool r) ∧ Drawn0 w w' := by
  have H : (if a0 ≥ a1 then (some (decide (a0 ≤ a2))) else (some false)) = some r := h
  clear h
  by_cases c4 : a0 ≥ a1
  · rw [if_pos c4] at H
    have c4b0 : decide (a1 ≤ a0) = true := decide_eq_true c4
    clear c4
    obtain rfl := Option.some.inj H
    go_enter Try.func49, Try.ntmps49
    go_wp2
    go_ret
    exact ⟨by first | rfl | (simp; done) | (simp [*]; done), by repeat (first | exact Drawn0.refl _ | apply Drawn0.step)⟩
  · rw [if_neg c4] at H
    have c4b0 : decide (a1 ≤ a0) = false := decide_eq_false c4
    clear c4
    obtain rfl := Option.some.inj H
    go_enter Try.func49, Try.ntmps49
    go_wp2
    go_ret
    exact ⟨by first | rfl | (simp; done) | (simp [*]; done), by repeat (first | exact Drawn0.refl _ | apply Drawn0.step)⟩

/-! ### slices_IndexFunc_int_int_79: function 79 -/
set_option maxHeartbeats 4000000 in
theorem slices_IndexFunc_int_int_79.any (A0 : Option Addr) (c0 : Nat) (l0 : List (List Int)) (p : (List Int) → Bool) (g : Nat) (lb : Array Value) (eg : ∀ args w, (callFunc g args).run Try.prog w = .ok (.enter g args) w) (w : World) (hr0 : Kd.C (Kd.slice 3 (Kd.int .i64)) w A0 l0.length l0)
    (hp : ∀ x, x ∈ l0 → ∀ (A_ : Option Addr) (c_ : Nat), x.length ≤ c_ → Kd.C (Kd.int .i64) w A_ x.length x → PredB Try.prog g lb #[.slice A_ x.length c_] (p x) w) :
    Calls Try.prog 79 #[.slice A0 l0.length c0, .func (.func g) #[] lb] w fun e w' => e = .returned (.int .i64 (idxP p l0)) ∧ Below w.heap.size w w' := by
  have HR0 := Aside0.mk hr0
  have HP := Aside0.mk hp
  clear hr0 hp
  go_enter Try.func79, Try.ntmps79
  go_wp2
  go_loopg [5, 8] l0.length (fun gk _ v8 w' => ∃ x8 : Int, v8 = .int .i64 x8 ∧ Aside0 (0 ≤ x8 ∧ x8 ≤ l0.length ∧ (l0.length : Int) - x8 ≤ gk) ∧ Aside0 (Below w.heap.size w w') ∧ Aside0 (∀ j, j < x8.toNat → p (l0.getD j []) = false))
  case atStart => exact ⟨0, rfl, ⟨by omega, by omega, by omega⟩, ⟨Below.refl _ _⟩, ⟨fun j hj => absurd hj (Nat.not_lt_zero _)⟩⟩
  case round =>
    obtain ⟨x8, rfl, HI, HB, HJ⟩ := hrel
    by_cases c : x8 < (l0.length : Int)
    · have cb : decide (x8 < (l0.length : Int)) = true := decide_eq_true c
      have CC := Aside0.mk c
      obtain ⟨ad, A_, c_, e, hx_0, hl_, hg_⟩ := at_L1 HR0.out x8 HI.out.1 c
      cases e
      replace hx_0 := (HB.out.cell (World.block_lt_of_cell? w _ hx_0)).trans hx_0
      have p0 := eq_true HI.out.1
      have q0 := eq_true c
      have p1 : decide (0 ≤ x8) = true := decide_eq_true HI.out.1
      have hcall := HP.out (rd_L1 l0 x8) (getD_mem [] (by have := HI.out; omega)) A_ c_ hl_ hg_ wr HB.out
      have HG_ := Aside0.mk hg_; clear hg_
      clear c
      cases hq : p (rd_L1 l0 x8) with
      | true =>
        have HQ := Aside0.mk hq
        rw [hq] at hcall
        clear hq
        go_wp2_with (go_at_fn g; refine hcall.mono ?_; rintro e w' ⟨rfl, hb'⟩)
        go_ret
        refine ⟨?_, hb'⟩
        have h1 := HI.out
        have h2 := CC.out
        rw [idxP_hit (k := x8.toNat) [] (by omega) HQ.out HJ.out, Int.toNat_of_nonneg h1.1]
        rfl
      | false =>
        have HQ := Aside0.mk hq
        rw [hq] at hcall
        clear hq
        go_wp2_with (go_at_fn g; refine hcall.mono ?_; rintro e w' ⟨rfl, hb'⟩)
        go_roundg (l0.length - (x8.toNat + 1))
        case measure => have h1 := HI.out; have h2 := CC.out; omega
        case rel =>
          have h1 := HI.out
          have h2 := CC.out
          refine ⟨x8 + 1, ?_, ⟨by omega, by omega, by omega⟩, ⟨hb'⟩, ⟨fun j hj => ?_⟩⟩
          · first | rfl | rw [wrap_up h1.1 h2 (Kd.C_max HR0.out)]
          · by_cases e : j = x8.toNat
            · subst e; exact HQ.out
            · exact HJ.out j (by omega)
    · have cb : decide (x8 < (l0.length : Int)) = false := decide_eq_false c
      have CC := Aside0.mk c
      clear c
      go_wp2
      go_ret
      refine ⟨?_, HB.out⟩
      have h1 := HI.out
      have h2 := CC.out
      rw [idxP_miss [] (fun j hj => HJ.out j (by omega))]
      rfl

/-! ### slices_ContainsFunc_int_int_50: function 50 -/
theorem slices_ContainsFunc_int_int_50.any (A0 : Option Addr) (c0 : Nat) (l0 : List (List Int)) (p : (List Int) → Bool) (g : Nat) (lb : Array Value) (eg : ∀ args w, (callFunc g args).run Try.prog w = .ok (.enter g args) w) (w : World) (hr0 : Kd.C (Kd.slice 3 (Kd.int .i64)) w A0 l0.length l0)
    (hp : ∀ x, x ∈ l0 → ∀ (A_ : Option Addr) (c_ : Nat), x.length ≤ c_ → Kd.C (Kd.int .i64) w A_ x.length x → PredB Try.prog g lb #[.slice A_ x.length c_] (p x) w) :
    Calls Try.prog 50 #[.slice A0 l0.length c0, .func (.func g) #[] lb] w fun e w' => e = .returned (.bool (l0.any p)) ∧ Below w.heap.size w w' := by
  have HI := Aside0.mk (slices_IndexFunc_int_int_79.any A0 c0 l0 p g lb eg w hr0 hp)
  rw [← idxP_any]
  generalize idxP p l0 = r at HI ⊢
  clear hr0 hp
  go_enter Try.func50, Try.ntmps50
  go_wp2_with (go_at_call 79; refine HI.out.mono ?_; rintro e w' ⟨rfl, hb'⟩)
  go_ret
  exact ⟨by first | rfl | simp, hb'⟩

/-! ### slices_IndexFunc_int_int_89: function 89 -/
set_option maxHeartbeats 4000000 in
theorem slices_IndexFunc_int_int_89.any (A0 : Option Addr) (c0 : Nat) (l0 : List Int) (p : Int → Bool) (g : Nat) (lb : Array Value) (eg : ∀ args w, (callFunc g args).run Try.prog w = .ok (.enter g args) w) (w : World) (hr0 : Kd.C (Kd.int .i64) w A0 l0.length l0)
    (hp : ∀ x, x ∈ l0 → PredB Try.prog g lb #[.int .i64 x] (p x) w) :
    Calls Try.prog 89 #[.slice A0 l0.length c0, .func (.func g) #[] lb] w fun e w' => e = .returned (.int .i64 (idxP p l0)) ∧ Below w.heap.size w w' := by
  have HR0 := Aside0.mk hr0
  have HP := Aside0.mk hp
  clear hr0 hp
  go_enter Try.func89, Try.ntmps89
  go_wp2
  go_loopg [5, 8] l0.length (fun gk _ v8 w' => ∃ x8 : Int, v8 = .int .i64 x8 ∧ Aside0 (0 ≤ x8 ∧ x8 ≤ l0.length ∧ (l0.length : Int) - x8 ≤ gk) ∧ Aside0 (Below w.heap.size w w') ∧ Aside0 (∀ j, j < x8.toNat → p (l0.getD j 0) = false))
  case atStart => exact ⟨0, rfl, ⟨by omega, by omega, by omega⟩, ⟨Below.refl _ _⟩, ⟨fun j hj => absurd hj (Nat.not_lt_zero _)⟩⟩
  case round =>
    obtain ⟨x8, rfl, HI, HB, HJ⟩ := hrel
    by_cases c : x8 < (l0.length : Int)
    · have cb : decide (x8 < (l0.length : Int)) = true := decide_eq_true c
      have CC := Aside0.mk c
      obtain ⟨ad, e, hx_0⟩ := Kd.at_int HR0.out x8 HI.out.1 c
      cases e
      replace hx_0 := (HB.out.cell (World.block_lt_of_cell? w _ hx_0)).trans hx_0
      have p0 := eq_true HI.out.1
      have q0 := eq_true c
      have p1 : decide (0 ≤ x8) = true := decide_eq_true HI.out.1
      have hcall := HP.out (rd l0 x8) (getD_mem 0 (by have := HI.out; omega)) wr HB.out
      skip
      clear c
      cases hq : p (rd l0 x8) with
      | true =>
        have HQ := Aside0.mk hq
        rw [hq] at hcall
        clear hq
        go_wp2_with (go_at_fn g; refine hcall.mono ?_; rintro e w' ⟨rfl, hb'⟩)
        go_ret
        refine ⟨?_, hb'⟩
        have h1 := HI.out
        have h2 := CC.out
        rw [idxP_hit (k := x8.toNat) 0 (by omega) HQ.out HJ.out, Int.toNat_of_nonneg h1.1]
        rfl
      | false =>
        have HQ := Aside0.mk hq
        rw [hq] at hcall
        clear hq
        go_wp2_with (go_at_fn g; refine hcall.mono ?_; rintro e w' ⟨rfl, hb'⟩)
        go_roundg (l0.length - (x8.toNat + 1))
        case measure => have h1 := HI.out; have h2 := CC.out; omega
        case rel =>
          have h1 := HI.out
          have h2 := CC.out
          refine ⟨x8 + 1, ?_, ⟨by omega, by omega, by omega⟩, ⟨hb'⟩, ⟨fun j hj => ?_⟩⟩
          · first | rfl | rw [wrap_up h1.1 h2 (Kd.C_max HR0.out)]
          · by_cases e : j = x8.toNat
            · subst e; exact HQ.out
            · exact HJ.out j (by omega)
    · have cb : decide (x8 < (l0.length : Int)) = false := decide_eq_false c
      have CC := Aside0.mk c
      clear c
      go_wp2
      go_ret
      refine ⟨?_, HB.out⟩
      have h1 := HI.out
      have h2 := CC.out
      rw [idxP_miss 0 (fun j hj => HJ.out j (by omega))]
      rfl

/-! ### slices_ContainsFunc_int_int_80: function 80 -/
theorem slices_ContainsFunc_int_int_80.any (A0 : Option Addr) (c0 : Nat) (l0 : List Int) (p : Int → Bool) (g : Nat) (lb : Array Value) (eg : ∀ args w, (callFunc g args).run Try.prog w = .ok (.enter g args) w) (w : World) (hr0 : Kd.C (Kd.int .i64) w A0 l0.length l0)
    (hp : ∀ x, x ∈ l0 → PredB Try.prog g lb #[.int .i64 x] (p x) w) :
    Calls Try.prog 80 #[.slice A0 l0.length c0, .func (.func g) #[] lb] w fun e w' => e = .returned (.bool (l0.any p)) ∧ Below w.heap.size w w' := by
  have HI := Aside0.mk (slices_IndexFunc_int_int_89.any A0 c0 l0 p g lb eg w hr0 hp)
  rw [← idxP_any]
  generalize idxP p l0 = r at HI ⊢
  clear hr0 hp
  go_enter Try.func80, Try.ntmps80
  go_wp2_with (go_at_call 89; refine HI.out.mono ?_; rintro e w' ⟨rfl, hb'⟩)
  go_ret
  exact ⟨by first | rfl | simp, hb'⟩

/-! ### impl_allWithin: function 52 -/
def impl_allWithin.f (l0 : List Int) (a1 : Int) (a2 : Int) : Option (Bool) := some (l0.all fun n => decide (a1 ≤ n) && decide (n ≤ a2))
theorem impl_allWithin.clo (lo hi : Int) (b1 b2 : Nat) (w : World) (h1 : b1 < w.heap.size) (h2 : b2 < w.heap.size) (k1 : w.cell? ⟨b1, 0, none⟩ = some (.int .i64 lo)) (k2 : w.cell? ⟨b2, 0, none⟩ = some (.int .i64 hi)) (x : Int) :
    PredB Try.prog 81 #[.pointer (some ⟨b1, 0, none⟩), .pointer (some ⟨b2, 0, none⟩)] #[.int .i64 x] (!(decide (lo ≤ x) && decide (x ≤ hi))) w := fun W hb => by
  have c1 : W.cell? ⟨b1, 0, none⟩ = some (.int .i64 lo) := (hb.cell (p := ⟨b1, 0, none⟩) h1).trans k1
  have c2 : W.cell? ⟨b2, 0, none⟩ = some (.int .i64 hi) := (hb.cell (p := ⟨b2, 0, none⟩) h2).trans k2
  have HB := Aside0.mk hb
  clear k1 k2 hb
  show Calls Try.prog 81 #[.int .i64 x, .pointer (some ⟨b1, 0, none⟩), .pointer (some ⟨b2, 0, none⟩)] W _
  by_cases e1 : lo ≤ x
  all_goals by_cases e2 : x ≤ hi
  all_goals (go_enter Try.func81, Try.ntmps81; go_wp2; go_ret; exact ⟨by simp [e1, e2], HB.out⟩)
set_option maxHeartbeats 4000000 in
theorem impl_allWithin.calls (A0 : Option Addr) (c0 : Nat) (l0 : List Int) (a1 : Int) (a2 : Int) (r : Bool) (w : World) (hr0 : Kd.C (Kd.int .i64) w A0 l0.length l0) (hc0 : l0.length ≤ c0) (h : impl_allWithin.f l0 a1 a2 = some r) :
    Calls Try.prog 52 #[.slice A0 l0.length c0, .int .i64 a1, .int .i64 a2] w fun e w' => e = .returned (.bool r) ∧ Below w.heap.size w w' := by
  obtain rfl := Option.some.inj h
  clear h
  have HR0 := Aside0.mk hr0
  clear hr0 hc0
  have eg : ∀ args w, (callFunc 81 args).run Try.prog w = .ok (.enter 81 args) w := enters_of Try.func81 (by kernel_rfl) rfl
  have HC := Aside0.mk (slices_ContainsFunc_int_int_80.any A0 c0 l0 (fun n => !(decide (a1 ≤ n) && decide (n ≤ a2))) 81 #[.pointer (some ⟨w.heap.size, 0, none⟩), .pointer (some ⟨w.heap.size + 1, 0, none⟩)] eg ((w.alloc (.cells #[.int .i64 a1] 3)).alloc (.cells #[.int .i64 a2] 3))
    (Kd.C_alloc (Kd.C_alloc HR0.out _) _) (fun x _ => impl_allWithin.clo a1 a2 w.heap.size (w.heap.size + 1) _ (by simp; omega) (by simp) (by simp) (by simp) x))
  have HE := Aside0.mk (show (l0.all fun n => decide (a1 ≤ n) && decide (n ≤ a2)) = !(l0.any fun n => !(decide (a1 ≤ n) && decide (n ≤ a2))) by rw [List.not_any_eq_all_not]; simp)
  rw [HE.out]
  generalize (l0.any fun n => !(decide (a1 ≤ n) && decide (n ≤ a2))) = b at HC ⊢
  clear eg
  go_enter Try.func52, Try.ntmps52
  go_wp2_with (go_at_call 80; refine HC.out.mono ?_; rintro e w' ⟨rfl, hb'⟩)
  go_ret
  exact ⟨rfl, (((Below.refl _ w).alloc (Nat.le_refl _) _).alloc (by simp) _).trans (hb'.mono (by simp; omega))⟩

/-! ### impl_GoodCosts: function 14 -/
def impl_GoodCosts.p (n : Nat) (x : List Int) : Bool := decide (x.length = n) && x.all fun v => decide (0 ≤ v) && decide (v ≤ 100)
def impl_GoodCosts.f (l0 : List (List Int)) : Option (Bool) := some ((decide (1 ≤ (l0.length : Int)) && decide ((l0.length : Int) ≤ 10)) && l0.all (impl_GoodCosts.p l0.length))
theorem impl_GoodCosts.within_eq (a lo hi : Int) : impl_within.f a lo hi = some (decide (lo ≤ a) && decide (a ≤ hi)) := by
  unfold impl_within.f
  by_cases h : a ≥ lo
  · rw [if_pos h]; simp [h]
  · rw [if_neg h]; simp [h]
set_option maxHeartbeats 4000000 in
theorem impl_GoodCosts.clo (A0 : Option Addr) (n c0 b : Nat) (x : List Int) (A_ : Option Addr) (c_ : Nat) (w : World) (hx : x.length ≤ c_) (hr : Kd.C (Kd.int .i64) w A_ x.length x) (hb : b < w.heap.size) (hk : w.cell? ⟨b, 0, none⟩ = some (.slice A0 n c0)) :
    PredB Try.prog 51 #[.pointer (some ⟨b, 0, none⟩)] #[.slice A_ x.length c_] (!impl_GoodCosts.p n x) w := fun W hB => by
  have k1 : W.cell? ⟨b, 0, none⟩ = some (.slice A0 n c0) := (hB.cell (p := ⟨b, 0, none⟩) hb).trans hk
  have HB := Aside0.mk hB
  have HR := Aside0.mk (Kd.C_below hr hB)
  have HX := Aside0.mk hx
  clear hk hB hr hx
  have HC := Aside0.mk (fun W' hR => impl_allWithin.calls A_ c_ x 0 100 _ W' hR HX.out rfl)
  unfold impl_GoodCosts.p
  generalize (x.all fun v => decide (0 ≤ v) && decide (v ≤ 100)) = r at HC ⊢
  show Calls Try.prog 51 #[.slice A_ x.length c_, .pointer (some ⟨b, 0, none⟩)] W _
  by_cases e1 : x.length = n
  · subst e1
    have e2 : ((x.length : Int) != (x.length : Int)) = false := by simp
    go_enter Try.func51, Try.ntmps51
    go_wp2_with (go_at_call 52; refine (HC.out _ (by first | exact HR.out | exact Kd.C_drewN HR.out _)).mono ?_; rintro e w' ⟨rfl, hb'⟩)
    go_ret
    exact ⟨by first | rfl | simp, by have := HB.out; exact this.trans (hb'.mono (by have := this.size; first | exact this | simpa using this))⟩
  · have e2 : ((x.length : Int) != (n : Int)) = true := by simp; omega
    have e3 : ((x.length : Int) = (n : Int)) = False := by simp; omega
    go_enter Try.func51, Try.ntmps51
    go_wp2
    go_ret
    exact ⟨by first | rfl | simp [e1], HB.out⟩
set_option maxHeartbeats 4000000 in
theorem impl_GoodCosts.calls (A0 : Option Addr) (c0 : Nat) (l0 : List (List Int)) (r : Bool) (w : World) (hr0 : Kd.C (Kd.slice 3 (Kd.int .i64)) w A0 l0.length l0) (hc0 : l0.length ≤ c0) (h : impl_GoodCosts.f l0 = some r) :
    Calls Try.prog 14 #[.slice A0 l0.length c0] w fun e w' => e = .returned (.bool r) ∧ Below w.heap.size w w' := by
  obtain rfl := Option.some.inj h
  clear h hc0
  have HW := Aside0.mk (impl_GoodCosts.within_eq (l0.length : Int) 1 10)
  have eg : ∀ args w, (callFunc 51 args).run Try.prog w = .ok (.enter 51 args) w := enters_of Try.func51 (by kernel_rfl) rfl
  have HC := Aside0.mk (fun nd => slices_ContainsFunc_int_int_50.any A0 c0 l0 (fun s => !impl_GoodCosts.p l0.length s) 51 #[.pointer (some ⟨w.heap.size, 0, none⟩)] eg ((w.alloc (.cells #[.slice A0 l0.length c0] 22)).drewN nd) (Kd.C_drewN (Kd.C_alloc hr0 _) nd)
    (fun x _ A_ c_ hx hr => impl_GoodCosts.clo A0 l0.length c0 w.heap.size x A_ c_ _ hx hr (by show w.heap.size < (w.alloc _).heap.size; simp) (by show (w.alloc _).cell? _ = _; simp)))
  have HE := Aside0.mk (show (l0.all (impl_GoodCosts.p l0.length)) = !(l0.any fun s => !impl_GoodCosts.p l0.length s) by rw [List.not_any_eq_all_not]; simp)
  rw [HE.out]
  clear HE eg hr0
  generalize (l0.any fun s => !impl_GoodCosts.p l0.length s) = b at HC ⊢
  cases hg : (decide (1 ≤ (l0.length : Int)) && decide ((l0.length : Int) ≤ 10)) with
  | true =>
    rw [hg] at HW
    clear hg
    go_enter Try.func14, Try.ntmps14
    go_wp2_with (first | (go_at_call 49; refine (impl_within.calls _ _ _ true _ HW.out).mono ?_; rintro e w' ⟨rfl, ⟨nd, rfl⟩⟩) | (go_at_call 50; refine (HC.out nd).mono ?_; rintro e w' ⟨rfl, hb'⟩))
    go_ret
    exact ⟨by first | rfl | simp, (pw_below_drewN ((Below.refl _ w).alloc (Nat.le_refl _) _) _).trans (hb'.mono (by show w.heap.size ≤ (w.alloc _).heap.size; simp))⟩
  | false =>
    rw [hg] at HW
    clear hg
    go_enter Try.func14, Try.ntmps14
    go_wp2_with (first | (go_at_call 49; refine (impl_within.calls _ _ _ false _ HW.out).mono ?_; rintro e w' ⟨rfl, ⟨nd, rfl⟩⟩))
    go_ret
    exact ⟨by first | rfl | simp, pw_below_drewN ((Below.refl _ w).alloc (Nat.le_refl _) _) _⟩

/-! ### bits_Mul32: function 90 -/
def bits_Mul32.f (a0 : Int) (a1 : Int) : Option (Int × Int) := some (((IntKind.u64.wrap ((IntKind.u64.wrap (a0)) * (IntKind.u64.wrap (a1)))) / 4294967296) % 4294967296, (IntKind.u64.wrap ((IntKind.u64.wrap (a0)) * (IntKind.u64.wrap (a1)))) % 4294967296)
set_option maxHeartbeats 8000000 in
set_option maxRecDepth 100000 in
theorem bits_Mul32.calls (a0 : Int) (a1 : Int) (r1 : Int) (r2 : Int) (w : World) (h : bits_Mul32.f a0 a1 = some (r1, r2)) :
    Calls Try.prog 90 #[.int .u32 a0, .int .u32 a1] w fun e w' => e = .returned (.tuple #[.int .u32 r1, .int .u32 r2]) ∧ Drawn0 w w' := by
  have H : (some (((IntKind.u64.wrap ((IntKind.u64.wrap (a0)) * (IntKind.u64.wrap (a1)))) / 4294967296) % 4294967296, (IntKind.u64.wrap ((IntKind.u64.wrap (a0)) * (IntKind.u64.wrap (a1)))) % 4294967296)) = some (r1, r2) := h
  clear h
  simp only [Option.some.injEq, Prod.mk.injEq] at H
  obtain ⟨rfl, rfl⟩ := H
  go_enter Try.func90, Try.ntmps90
  go_wp2
  go_ret2
  exact ⟨by first | rfl | (simp; done) | (simp [*]; done), by repeat (first | exact Drawn0.refl _ | apply Drawn0.step)⟩

/-! ### bits_Mul64: function 91 -/
def bits_Mul64.f (a0 : Int) (a1 : Int) : Option (Int × Int) := some (IntKind.u64.wrap ((IntKind.u64.wrap ((IntKind.u64.wrap ((a0 / 4294967296) * (a1 / 4294967296))) + ((IntKind.u64.wrap ((IntKind.u64.wrap ((a0 / 4294967296) * (Go.bits .and .u64 a1 4294967295))) + ((IntKind.u64.wrap ((Go.bits .and .u64 a0 4294967295) * (Go.bits .and .u64 a1 4294967295))) / 4294967296))) / 4294967296))) + ((IntKind.u64.wrap ((Go.bits .and .u64 (IntKind.u64.wrap ((IntKind.u64.wrap ((a0 / 4294967296) * (Go.bits .and .u64 a1 4294967295))) + ((IntKind.u64.wrap ((Go.bits .and .u64 a0 4294967295) * (Go.bits .and .u64 a1 4294967295))) / 4294967296))) 4294967295) + (IntKind.u64.wrap ((Go.bits .and .u64 a0 4294967295) * (a1 / 4294967296))))) / 4294967296)), IntKind.u64.wrap (a0 * a1))
set_option maxHeartbeats 8000000 in
set_option maxRecDepth 100000 in
theorem bits_Mul64.calls (a0 : Int) (a1 : Int) (r1 : Int) (r2 : Int) (w : World) (h : bits_Mul64.f a0 a1 = some (r1, r2)) :
    Calls Try.prog 91 #[.int .u64 a0, .int .u64 a1] w fun e w' => e = .returned (.tuple #[.int .u64 r1, .int .u64 r2]) ∧ Drawn0 w w' := by
  have H : (some (IntKind.u64.wrap ((IntKind.u64.wrap ((IntKind.u64.wrap ((a0 / 4294967296) * (a1 / 4294967296))) + ((IntKind.u64.wrap ((IntKind.u64.wrap ((a0 / 4294967296) * (Go.bits .and .u64 a1 4294967295))) + ((IntKind.u64.wrap ((Go.bits .and .u64 a0 4294967295) * (Go.bits .and .u64 a1 4294967295))) / 4294967296))) / 4294967296))) + ((IntKind.u64.wrap ((Go.bits .and .u64 (IntKind.u64.wrap ((IntKind.u64.wrap ((a0 / 4294967296) * (Go.bits .and .u64 a1 4294967295))) + ((IntKind.u64.wrap ((Go.bits .and .u64 a0 4294967295) * (Go.bits .and .u64 a1 4294967295))) / 4294967296))) 4294967295) + (IntKind.u64.wrap ((Go.bits .and .u64 a0 4294967295) * (a1 / 4294967296))))) / 4294967296)), IntKind.u64.wrap (a0 * a1))) = some (r1, r2) := h
  clear h
  simp only [Option.some.injEq, Prod.mk.injEq] at H
  obtain ⟨rfl, rfl⟩ := H
  go_enter Try.func91, Try.ntmps91
  go_wp2
  go_ret2
  exact ⟨by first | rfl | (simp; done) | (simp [*]; done), by repeat (first | exact Drawn0.refl _ | apply Drawn0.step)⟩

/-! ### bits_Mul: function 83 -/
def bits_Mul.f (a0 : Int) (a1 : Int) : Option (Int × Int) := (bits_Mul64.f a0 a1).bind fun bt148 => (some (bt148.1, bt148.2))
set_option maxHeartbeats 8000000 in
set_option maxRecDepth 100000 in
theorem bits_Mul.calls (a0 : Int) (a1 : Int) (r1 : Int) (r2 : Int) (w : World) (h : bits_Mul.f a0 a1 = some (r1, r2)) :
    Calls Try.prog 83 #[.int .u64 a0, .int .u64 a1] w fun e w' => e = .returned (.tuple #[.int .u64 r1, .int .u64 r2]) ∧ Drawn0 w w' := by
  have H : ((bits_Mul64.f a0 a1).bind fun bt148 => (some (bt148.1, bt148.2))) = some (r1, r2) := h
  clear h
  replace H := Option.bind_eq_some_iff.mp H
  obtain ⟨⟨t148, t149⟩, A30, H⟩ := H
  replace H : (some (t148, t149)) = some (r1, r2) := H
  have A3 := Aside0.mk A30
  clear A30
  simp only [Option.some.injEq, Prod.mk.injEq] at H
  obtain ⟨rfl, rfl⟩ := H
  go_enter Try.func83, Try.ntmps83
  go_wp2_with (first | ((with_reducible refine gate_callee (f := 91) rfl ?_); refine goesL_ (some 25) rfl rfl Try.func91 (by kernel_rfl) rfl #[.int .u64 a0, .int .u64 a1] rfl (by (try simp only [List.map_toArray, List.map_cons, List.map_nil]); first | done | rfl | (simp only [List.length_drop, List.length_take]; rfl)) ?_; (with_reducible refine (bits_Mul64.calls a0 a1 t148 t149 _ A3.out).mono ?_); rintro e w' ⟨rfl, ⟨nd, rfl⟩⟩; refine ⟨_, rfl, ?_⟩))
  go_ret2
  exact ⟨by first | rfl | (simp; done) | (simp [*]; done), by repeat (first | exact Drawn0.refl _ | apply Drawn0.step)⟩

end Go.Proofs.Ytdlblaihleojmaa.GLCheapestFit
