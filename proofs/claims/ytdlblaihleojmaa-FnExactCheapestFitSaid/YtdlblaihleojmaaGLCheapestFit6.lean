-- Written by a program of this session (gprint.py), over the kit's print: not trusted: Lean checks it.
import Derived.Test.YtdlblaihleojmaaGLCheapestFit0
import Derived.Test.YtdlblaihleojmaaOwnQ
import Derived.Test.YtdlblaihleojmaaGLCheapestFit5
namespace Go.Proofs.Ytdlblaihleojmaa.GLCheapestFit
open Go.RowKit Go.Proofs.YtdlblaihleojmaaW.PrintWords Go.Proofs.YtdlblaihleojmaaW.PrintLast Go.Proofs.YtdlblaihleojmaaW.PrintMore Go.Proofs.YtdlblaihleojmaaW.PrintOwn
attribute [local go_sem] max2_int min2_int max_two min_two max_three min_three max_four min_four   -- for this text's walks alone
set_option linter.unusedVariables false
set_option linter.unusedSimpArgs false

/-! ### impl_Prices_place: function 65 -/
def impl_Prices_place.T2 : Bool × List (List Nat × List Nat) := (true, [([], []), ([], []), ([0, 1], [0, 1]), ([], []), ([], []), ([3, 4, 2], [3, 4]), ([], []), ([6, 6], [6]), ([], []), ([8], [8]), ([2, 5, 0, 1, 2], [2]), ([5, 10, 0, 1, 2, 3, 4, 5, 10], [5]), ([7, 11, 0, 1, 2, 3, 4, 5, 6, 7, 10, 11], [7]), ([9, 12, 0, 1, 2, 3, 4, 5, 6, 7, 8, 9, 10, 11, 12], [9])])
def impl_Prices_place.B2 : List Nat := [0, 0, 3, 0, 0, 31, 0, 64, 0, 256, 63, 1087, 3327, 8191]
theorem impl_Prices_place.tab2 : rtab .any (opsOf Try.f65 2) = impl_Prices_place.T2 := by kernel_rfl
theorem impl_Prices_place.bits2 : waitsOk impl_Prices_place.T2.2 impl_Prices_place.B2 = true := by kernel_rfl
def impl_Prices_place.T10 : Bool × List (List Nat × List Nat) := (true, [([], []), ([], []), ([0, 1], [0, 1]), ([2], [2]), ([], []), ([3, 4], [3, 4]), ([5], [5]), ([], []), ([7], [7]), ([], []), ([8, 9], [8, 9]), ([10], [10]), ([6, 11], [6, 11]), ([], []), ([13], [13]), ([], []), ([14, 15], [14, 15]), ([16], [16]), ([12, 17], [12, 17]), ([18, 0, 1, 2, 3, 4, 5, 6, 7, 8, 9, 10, 11, 12, 13, 14, 15, 16, 17, 18], [18])])
def impl_Prices_place.B10 : List Nat := [0, 0, 3, 7, 0, 31, 63, 0, 128, 0, 896, 1920, 4095, 0, 8192, 0, 57344, 122880, 262143, 524287]
theorem impl_Prices_place.tab10 : rtab .any (opsOf Try.f65 10) = impl_Prices_place.T10 := by kernel_rfl
theorem impl_Prices_place.bits10 : waitsOk impl_Prices_place.T10.2 impl_Prices_place.B10 = true := by kernel_rfl
def impl_Prices_place.T13 : Bool × List (List Nat × List Nat) := (true, [([], []), ([0], [0]), ([1], [1]), ([2], [2]), ([2], [2]), ([3, 4, 2], [2, 3, 4]), ([5, 2], [2, 5]), ([2], [2]), ([2], [2]), ([7, 8, 2], [2, 7, 8]), ([9, 2], [2, 9]), ([6, 10, 2], [2, 6, 10]), ([2, 11], [2, 11])])
def impl_Prices_place.B13 : List Nat := [0, 1, 3, 7, 7, 31, 63, 7, 7, 391, 903, 2047, 4095]
theorem impl_Prices_place.tab13 : rtab .any (opsOf Try.f65 13) = impl_Prices_place.T13 := by kernel_rfl
theorem impl_Prices_place.bits13 : waitsOk impl_Prices_place.T13.2 impl_Prices_place.B13 = true := by kernel_rfl
def impl_Prices_place.f (k : Nat) (l0_0 : List Int) (l0_1 : List Int) (l1 : List (List Int)) (l2 : List Int) (a3 : Int) : Option (List Int × List Int × List Int) := if GoodP l1 l0_0 l0_1 l2 a3 then (outF l1 l2 l1.length (l1.length + 1) (List.replicate l1.length 1099511627776) (List.replicate l1.length (-1)) (List.replicate l1.length false) [a3] (-1) l0_0 l0_1).bind fun s => (backF s.2.2.1 a3 (l1.length + 1) s.2.2.2 l2).bind fun O => some (s.1, s.2.1, O) else none
theorem impl_Prices_place.mono : ∀ a0 a1 a2 a3 a4 k, LeO (impl_Prices_place.f k a0 a1 a2 a3 a4) (impl_Prices_place.f (k + 1) a0 a1 a2 a3 a4) := fun _ _ _ _ _ _ => LeO.refl _
theorem impl_Prices_place.rep (n : Nat) (hn : 1 ≤ n ∧ n ≤ 1000) (z : Int) : slices_Repeat_int_int.f [z] (n : Int) = some (List.replicate n z) := by
  unfold slices_Repeat_int_int.f
  simp only []
  rw [if_pos (by omega), Int.toNat_natCast]
set_option maxHeartbeats 8000000 in
set_option maxRecDepth 100000 in
theorem impl_Prices_place.calls (k : Nat) (P0_0_ : Nat → Prop) (u9000_ : Value) (l0_0 : List Int) (P0_1_ : Nat → Prop) (u9001_ : Value) (l0_1 : List Int) (A1 : Option Addr) (c1 : Nat) (l1 : List (List Int)) (P2_ : Nat → Prop) (u9002_ : Value) (l2 : List Int) (a3 : Int) (r1 : List Int) (r2 : List Int) (r3 : List Int) (w0 w : World) (hB : Below w0.heap.size w0 w) (ho0_0 : Kd.R (Kd.int .i64) 3 w w0.heap.size P0_0_ u9000_ l0_0) (hp0_0_0_1 : ∀ k_, P0_0_ k_ → ¬ P0_1_ k_) (hp0_0_2 : ∀ k_, P0_0_ k_ → ¬ P2_ k_) (ho0_1 : Kd.R (Kd.int .i64) 3 w w0.heap.size P0_1_ u9001_ l0_1) (hp0_1_0_0 : ∀ k_, P0_1_ k_ → ¬ P0_0_ k_) (hp0_1_2 : ∀ k_, P0_1_ k_ → ¬ P2_ k_) (hr1 : ∀ W_, Kept w W_ (fun k_ => P0_0_ k_ ∨ P0_1_ k_ ∨ P2_ k_) → Kd.C (Kd.slice 3 (Kd.int .i64)) W_ A1 l1.length l1) (hc1 : l1.length ≤ c1) (ho2 : Kd.R (Kd.int .i64) 3 w w0.heap.size P2_ u9002_ l2) (hp2_0_0 : ∀ k_, P2_ k_ → ¬ P0_0_ k_) (hp2_0_1 : ∀ k_, P2_ k_ → ¬ P0_1_ k_) (h : impl_Prices_place.f k l0_0 l0_1 l1 l2 a3 = some (r1, r2, r3)) :
  Calls Try.prog 65 #[.agg #[u9000_, u9001_], .slice A1 l1.length c1, u9002_, .int .i64 a3] w fun e w' => e = .returned (.tuple #[]) ∧ Kd.R (Kd.int .i64) 3 w' w0.heap.size (fun k_ => ((P0_0_ k_ ∨ P0_1_ k_ ∨ P2_ k_) ∨ w.heap.size ≤ k_)) u9000_ r1 ∧ Kd.R (Kd.int .i64) 3 w' w0.heap.size (fun k_ => ((P0_0_ k_ ∨ P0_1_ k_ ∨ P2_ k_) ∨ w.heap.size ≤ k_)) u9001_ r2 ∧ Kd.R (Kd.int .i64) 3 w' w0.heap.size (fun k_ => ((P0_0_ k_ ∨ P0_1_ k_ ∨ P2_ k_) ∨ w.heap.size ≤ k_)) u9002_ r3 ∧ Below w0.heap.size w0 w' ∧ Kept w w' (fun k_ => P0_0_ k_ ∨ P0_1_ k_ ∨ P2_ k_) := by
 have hu33 := Try.underlying33
 unfold impl_Prices_place.f at h
 by_cases hg : GoodP l1 l0_0 l0_1 l2 a3
 case neg => rw [if_neg hg] at h; cases h
 rw [if_pos hg] at h
 obtain ⟨s, hs, h⟩ := Option.bind_eq_some_iff.mp h
 obtain ⟨O1, hO1, h⟩ := Option.bind_eq_some_iff.mp h
 simp only [Option.some.injEq, Prod.mk.injEq] at h
 obtain ⟨rfl, rfl, rfl⟩ := h
 obtain ⟨⟨hn2, hL, hBl, hO⟩, ⟨hl0, hl1⟩, hrow, hown⟩ := hg
 have hn1 : 1 ≤ l1.length := by omega
 obtain ⟨P, hP⟩ : ∃ P : Nat → Prop, P = fun k_ => P0_0_ k_ ∨ P0_1_ k_ ∨ P2_ k_ := ⟨_, rfl⟩
 rw [← hP] at hr1
 obtain ⟨gL, cL, rfl, eL, lL, _⟩ := Kd.R_form ho0_0 (by omega)
 obtain ⟨gB, cB, rfl, eB, lB, _⟩ := Kd.R_form ho0_1 (by omega)
 obtain ⟨gO, cO, rfl, eO, lO, _⟩ := Kd.R_form ho2 (by omega)
 have mL : P0_0_ gL := ho0_0.1 gL (by simp [Value.ownBlock])
 have mB : P0_1_ gB := ho0_1.1 gB (by simp [Value.ownBlock])
 have mO : P2_ gO := ho2.1 gO (by simp [Value.ownBlock])
 have nLB : gL ≠ gB := fun e => hp0_0_0_1 gL mL (e ▸ mB)
 have nLO : gL ≠ gO := fun e => hp0_0_2 gL mL (e ▸ mO)
 have nBO : gB ≠ gO := fun e => hp0_1_2 gB mB (e ▸ mO)
 rw [hL] at ho0_0 ⊢
 rw [hBl] at ho0_1 ⊢
 rw [hO] at ho2 ⊢
 have HLL := Aside0.mk (Kd.R_mono (ok' := fun k => k = gL) (Kd.R_tight rfl ho0_0) (fun k hk => by simpa [Value.ownBlock] using hk))
 have HLB := Aside0.mk (Kd.R_mono (ok' := fun k => k = gB) (Kd.R_tight rfl ho0_1) (fun k hk => by simpa [Value.ownBlock] using hk))
 have HLO := Aside0.mk (Kd.R_mono (ok' := fun k => k = gO) (Kd.R_tight rfl ho2) (fun k hk => by simpa [Value.ownBlock] using hk))
 have HAP := Aside0.mk (show (gL ≠ gB ∧ gL ≠ gO ∧ gB ≠ gO) ∧ (P gL ∧ P gB ∧ P gO) ∧ (gL < w.heap.size ∧ gB < w.heap.size ∧ gO < w.heap.size) ∧ (w0.heap.size ≤ gL ∧ w0.heap.size ≤ gB ∧ w0.heap.size ≤ gO) from ⟨⟨nLB, nLO, nBO⟩, by rw [hP]; exact ⟨.inl mL, .inr (.inl mB), .inr (.inr mO)⟩, ⟨lL, lB, lO⟩, eL, eB, eO⟩)
 have HPE := Aside0.mk hP
 have HL := Aside0.mk (show (1 ≤ l1.length ∧ l1.length ≤ 1000) ∧ 0 ≤ a3 ∧ a3 < (l1.length : Int) from ⟨⟨hn1, hn2⟩, hl0, hl1⟩)
 have HLN := Aside0.mk (show l0_0.length = l1.length ∧ l0_1.length = l1.length ∧ l2.length = l1.length from ⟨hL, hBl, hO⟩)
 have HROW := Aside0.mk hrow
 have HOWN := Aside0.mk hown
 have HOUT := Aside0.mk hs
 have HBACK := Aside0.mk hO1
 have HR1 := Aside0.mk hr1
 have HC1 := Aside0.mk hc1
 have HB := Aside0.mk hB
 have HK := Aside0.mk (Kept.refl w P)
 have HREP := Aside0.mk (impl_Prices_place.rep l1.length ⟨hn1, hn2⟩)
 clear ho0_0 ho0_1 ho2 hp0_0_0_1 hp0_0_2 hp0_1_0_0 hp0_1_2 hp2_0_0 hp2_0_1 hr1 hc1 hB hs hO1 hrow hown hn2 hL hBl hO hl0 hl1 hn1 hP mL mB mO nLB nLO nBO eL eB eO lL lB lO
 go_enter Try.func65, Try.ntmps65
 go_wp2_with ((with_reducible refine gate_dst (N := 4) rfl ?_); refine box_event ?hg (N := 4) ?hd (cs := #[.slice (some ⟨gL, 0, none⟩) l1.length cL, .slice (some ⟨gB, 0, none⟩) l1.length cB]) (t := 33) ?hr ?_; (case hd => rfl); (case hg => rfl); (case hr => first | (go_simp; done) | (go_simp; rfl)); intro gb hg w1 hbox hb; replace HB := Aside0.mk (below_step HB.out hb); replace HK := Aside0.mk (Kept.below HK.out hb); have HBW := Aside0.mk hb; have BK := Aside0.mk hbox; have GB := Aside0.mk hg; clear hg hbox hb)
 replace BK := Aside0.mk (blk_drew BK.out)
 replace HB := Aside0.mk (below_drew1 HB.out)
 replace HK := Aside0.mk (Kept.below HK.out (below_drew1 (Below.refl _ _)))
 replace HBW := Aside0.mk (show Below w.heap.size w w1.drew from below_drew1 HBW.out)
 have HI := Aside0.mk (Below.refl w1.drew.heap.size w1.drew)
 refine start_ (n := 14) (S := fun w' => True) (ds := []) #[false, false, false, false, false, false, false, false, false, false, false, false, false, false] (by kernel_rfl) rfl rfl trivial (fun hHeld => ?_); refine with_tabW impl_Prices_place.tab2 impl_Prices_place.bits2 (fun HT_ HW_ => ?_)
 generalize w1.drew = w3 at BK HI HB HK HBW ⊢
 refine pure_ (i := 1) (N := some 27) (v := ?_) (a' := ?_) #[false, true, false, false, false, false, false, false, false, false, false, false, false, false] rfl rfl (by kernel_rfl) (fun _ _ _ h => h) (Or.inl ⟨by rfl, ?_⟩) ?_ ?_
 rotate_left
 · intro w'
   go_simp
   with_reducible rfl
 rotate_left
 · simp only [Act.put, List.setIfInBounds_toArray, List.set_cons_zero, List.set_cons_succ, i64_w, i32_w]
   rfl
 refine pure_ (i := 4) (N := some 30) (v := ?_) (a' := ?_) #[false, true, false, false, true, false, false, false, false, false, false, false, false, false] rfl rfl (by kernel_rfl) (fun _ _ _ h => h) (Or.inl ⟨by rfl, ?_⟩) ?_ ?_
 rotate_left
 · intro w'
   go_simp
   with_reducible rfl
 rotate_left
 · simp only [Act.put, List.setIfInBounds_toArray, List.set_cons_zero, List.set_cons_succ, i64_w, i32_w]
   rfl
 refine pure_ (i := 6) (N := some 32) (v := ?_) (a' := ?_) #[false, true, false, false, true, false, true, false, false, false, false, false, false, false] rfl rfl (by kernel_rfl) (fun _ _ _ h => h) (Or.inl ⟨by rfl, ?_⟩) ?_ ?_
 rotate_left
 · intro w'
   go_simp
   with_reducible rfl
 rotate_left
 · simp only [Act.put, List.setIfInBounds_toArray, List.set_cons_zero, List.set_cons_succ, i64_w, i32_w]
   rfl
 refine pure_ (i := 8) (N := some 34) (v := ?_) (a' := ?_) #[false, true, false, false, true, false, true, false, true, false, false, false, false, false] rfl rfl (by kernel_rfl) (fun _ _ _ h => h) (Or.inl ⟨by rfl, ?_⟩) ?_ ?_
 rotate_left
 · intro w'
   go_simp
   with_reducible rfl
 rotate_left
 · simp only [Act.put, List.setIfInBounds_toArray, List.set_cons_zero, List.set_cons_succ, i64_w, i32_w]
   rfl
 refine inv_at [0, 2, 3, 5, 7, 9, 10, 11, 12, 13] (fun a0_ b a w' => ∃ (col : Nat → Nat) (u0 : Value) (v0 : Value) (u1 : Value) (v1 : Value) (v2 : Value) (v3 : Value) (m10_ : Value) (m11_ : Value) (m12_ : Value) (m13_ : Value), a = putSel a0_ b [(0, 26, u0), (2, 28, v0), (3, 29, u1), (5, 31, v1), (7, 33, v2), (9, 35, v3), (10, 9, m10_), (11, 10, m11_), (12, 11, m12_), (13, 12, m13_)] ∧ (Below w3.heap.size w3 w') ∧ (b 0 = true → b 2 = false → Kd.R (Kd.int .i64) 3 w' w3.heap.size (fun k_ => col k_ = 0) u0 ([1099511627776] : List Int)) ∧ (b 2 = true → Kd.R (Kd.int .i64) 3 w' w3.heap.size (fun k_ => col k_ = 1) v0 (List.replicate l1.length 1099511627776)) ∧ (b 3 = true → b 5 = false → Kd.R (Kd.int .i64) 3 w' w3.heap.size (fun k_ => col k_ = 2) u1 ([-1] : List Int)) ∧ (b 5 = true → Kd.R (Kd.int .i64) 3 w' w3.heap.size (fun k_ => col k_ = 3) v1 (List.replicate l1.length (-1))) ∧ (b 7 = true → Kd.R Kd.bool 4 w' w3.heap.size (fun k_ => col k_ = 4) v2 (List.replicate l1.length false)) ∧ (b 9 = true → Kd.R (Kd.int .i64) 3 w' w3.heap.size (fun k_ => col k_ = 5) v3 ([a3] : List Int)) ∧ (b 10 = true → (m10_ : Value) = v0) ∧ (b 11 = true → (m11_ : Value) = v1) ∧ (b 12 = true → (m12_ : Value) = v2) ∧ (b 13 = true → (m13_ : Value) = v3)) HT_.out HW_.out (by kernel_rfl) (by kernel_rfl) ?_ ?_ ?_
 · exact ⟨(fun _ => 9), (.bool false), (.bool false), (.bool false), (.bool false), (.bool false), (.bool false), .bool false, .bool false, .bool false, .bool false, by simp only [putSel, Bool.false_eq_true, if_false], HI.out, fun h_ => absurd h_ (by decide), fun h_ => absurd h_ (by decide), fun h_ => absurd h_ (by decide), fun h_ => absurd h_ (by decide), fun h_ => absurd h_ (by decide), fun h_ => absurd h_ (by decide), fun h_ => absurd h_ (by decide), fun h_ => absurd h_ (by decide), fun h_ => absurd h_ (by decide), fun h_ => absurd h_ (by decide)⟩
 · skip
   clear HI
   refine steps_cons ?_ ?_
   · rintro b a w' ⟨col, u0, v0, u1, v1, v2, v3, m10_, m11_, m12_, m13_, ha, Q_HI, Q_RA0, Q_RB0, Q_RA1, Q_RB1, Q_RC, Q_RD, Q_X10_, Q_X11_, Q_X12_, Q_X13_⟩ hb_ hon hoff
     refine ⟨_, rfl, fun K hK => ?_⟩
     replace ha := Aside0.mk ha
     have HI := Aside0.mk Q_HI
     refine Kd.R_lit_step (Kd.int .i64) (w0 := w') w'.heap.size 3 ?hg (N := 26) ?hd (xs := ([1099511627776] : List Int)) (inner := [.int .i64 1099511627776]) (ok := fun _ => True) (okp := fun _ => True) ?hr (Reps.one (show Kd.M (Kd.int .i64) _ _ _ 1099511627776 [.int .i64 1099511627776] from rfl) (Reps.none _ _)) (fun _ hk => hk) trivial (Below.refl _ _) (Nat.le_refl _) (by simp) ?_; (case hd => rfl); (case hg => rfl); (case hr => first | (go_simp; done) | (go_simp; rfl))
     intro u_ w4 hu_ hb_4 _ _
     refine hK.out _ _ ⟨(fun k_ => if w'.heap.size ≤ k_ then 0 else col k_), u_, v0, u1, v1, v2, v3, m10_, m11_, m12_, m13_, (by rw [ha.out]; exact putSel_upk 0 hb_ rfl rfl rfl), below_step HI.out hb_4, fun _ _ => col_new hu_ HI.out.size 0, fun h0_ => absurd ((hoff 2 (by kernel_rfl)).symm.trans h0_) (by decide), fun h0_ h1_ => col_below (Q_RA1 h0_ h1_) hb_4 0, fun h0_ => absurd ((hoff 5 (by kernel_rfl)).symm.trans h0_) (by decide), fun h0_ => col_below (Q_RC h0_) hb_4 0, fun h0_ => col_below (Q_RD h0_) hb_4 0, fun h0_ => absurd ((hoff 10 (by kernel_rfl)).symm.trans h0_) (by decide), fun h0_ => absurd ((hoff 11 (by kernel_rfl)).symm.trans h0_) (by decide), fun h0_ => absurd ((hoff 12 (by kernel_rfl)).symm.trans h0_) (by decide), fun h0_ => absurd ((hoff 13 (by kernel_rfl)).symm.trans h0_) (by decide)⟩
   refine steps_cons ?_ ?_
   · rintro b a w' ⟨col, u0, v0, u1, v1, v2, v3, m10_, m11_, m12_, m13_, ha, Q_HI, Q_RA0, Q_RB0, Q_RA1, Q_RB1, Q_RC, Q_RD, Q_X10_, Q_X11_, Q_X12_, Q_X13_⟩ hb_ hon hoff
     refine ⟨_, rfl, fun K hK => ?_⟩
     have e26 : a.tmps[26]? = some (u0) := by rw [ha]; exact putSel_on (e := (0, 26, u0)) 0 rfl rfl (hon 0 (by kernel_rfl)) rfl
     have e27 : a.tmps[27]? = some (.int .i64 (l1.length : Int)) := by rw [ha]; exact (putSel_off rfl).trans rfl
     replace ha := Aside0.mk ha
     have HI := Aside0.mk Q_HI
     have RA0 := Aside0.mk (Q_RA0 (hon 0 (by kernel_rfl)) hb_)
     obtain ⟨q_, z_, eo_⟩ := Kd.R_slice RA0.out; subst eo_
     refine goes_ Try.func64 (by kernel_rfl) rfl #[.slice q_ ([1099511627776] : List Int).length z_, .int .i64 (l1.length : Int)] (by rfl) rfl rfl (by first | (simp only [List.map_toArray, List.map_cons, List.map_nil, Act.eval, Array.getD_eq_getD_getElem?, Option.getD_some, e26, e27]; done) | (simp only [List.map_toArray, List.map_cons, List.map_nil, Act.eval, Array.getD_eq_getD_getElem?, Option.getD_some, e26, e27]; rfl)) ?_
     refine (slices_Repeat_int_int.calls q_ z_ ([1099511627776] : List Int) (l1.length : Int) (List.replicate l1.length (1099511627776)) w' (Kd.R_reads' RA0.out).2.2 (Kd.R_reads' RA0.out).2.1 (HREP.out _)).mono ?_
     rintro e_ w4 ⟨u_, rfl, hu_, hb_4⟩
     refine ⟨_, rfl, ?_⟩
     refine hK.out _ _ ⟨(fun k_ => if w'.heap.size ≤ k_ then 1 else col k_), .slice q_ ([1099511627776] : List Int).length z_, u_, u1, v1, v2, v3, m10_, m11_, m12_, m13_, (by rw [ha.out]; exact putSel_upk 1 hb_ rfl rfl rfl), below_step HI.out hb_4, fun _ h1_ => absurd ((up_self b 2).symm.trans h1_) (by decide), fun _ => col_new hu_ HI.out.size 1, fun h0_ h1_ => col_below (Q_RA1 h0_ h1_) hb_4 1, fun h0_ => absurd ((hoff 5 (by kernel_rfl)).symm.trans h0_) (by decide), fun h0_ => col_below (Q_RC h0_) hb_4 1, fun h0_ => col_below (Q_RD h0_) hb_4 1, fun h0_ => absurd ((hoff 10 (by kernel_rfl)).symm.trans h0_) (by decide), fun h0_ => absurd ((hoff 11 (by kernel_rfl)).symm.trans h0_) (by decide), fun h0_ => absurd ((hoff 12 (by kernel_rfl)).symm.trans h0_) (by decide), fun h0_ => absurd ((hoff 13 (by kernel_rfl)).symm.trans h0_) (by decide)⟩
   refine steps_cons ?_ ?_
   · rintro b a w' ⟨col, u0, v0, u1, v1, v2, v3, m10_, m11_, m12_, m13_, ha, Q_HI, Q_RA0, Q_RB0, Q_RA1, Q_RB1, Q_RC, Q_RD, Q_X10_, Q_X11_, Q_X12_, Q_X13_⟩ hb_ hon hoff
     refine ⟨_, rfl, fun K hK => ?_⟩
     replace ha := Aside0.mk ha
     have HI := Aside0.mk Q_HI
     refine Kd.R_lit_step (Kd.int .i64) (w0 := w') w'.heap.size 3 ?hg (N := 29) ?hd (xs := ([-1] : List Int)) (inner := [.int .i64 (-1)]) (ok := fun _ => True) (okp := fun _ => True) ?hr (Reps.one (show Kd.M (Kd.int .i64) _ _ _ (-1) [.int .i64 (-1)] from rfl) (Reps.none _ _)) (fun _ hk => hk) trivial (Below.refl _ _) (Nat.le_refl _) (by simp) ?_; (case hd => rfl); (case hg => rfl); (case hr => first | (go_simp; done) | (go_simp; rfl))
     intro u_ w4 hu_ hb_4 _ _
     refine hK.out _ _ ⟨(fun k_ => if w'.heap.size ≤ k_ then 2 else col k_), u0, v0, u_, v1, v2, v3, m10_, m11_, m12_, m13_, (by rw [ha.out]; exact putSel_upk 2 hb_ rfl rfl rfl), below_step HI.out hb_4, fun h0_ h1_ => col_below (Q_RA0 h0_ h1_) hb_4 2, fun h0_ => col_below (Q_RB0 h0_) hb_4 2, fun _ _ => col_new hu_ HI.out.size 2, fun h0_ => absurd ((hoff 5 (by kernel_rfl)).symm.trans h0_) (by decide), fun h0_ => col_below (Q_RC h0_) hb_4 2, fun h0_ => col_below (Q_RD h0_) hb_4 2, fun h0_ => absurd ((hoff 10 (by kernel_rfl)).symm.trans h0_) (by decide), fun h0_ => absurd ((hoff 11 (by kernel_rfl)).symm.trans h0_) (by decide), fun h0_ => absurd ((hoff 12 (by kernel_rfl)).symm.trans h0_) (by decide), fun h0_ => absurd ((hoff 13 (by kernel_rfl)).symm.trans h0_) (by decide)⟩
   refine steps_cons ?_ ?_
   · rintro b a w' ⟨col, u0, v0, u1, v1, v2, v3, m10_, m11_, m12_, m13_, ha, Q_HI, Q_RA0, Q_RB0, Q_RA1, Q_RB1, Q_RC, Q_RD, Q_X10_, Q_X11_, Q_X12_, Q_X13_⟩ hb_ hon hoff
     refine ⟨_, rfl, fun K hK => ?_⟩
     have e29 : a.tmps[29]? = some (u1) := by rw [ha]; exact putSel_on (e := (3, 29, u1)) 2 rfl rfl (hon 3 (by kernel_rfl)) rfl
     have e30 : a.tmps[30]? = some (.int .i64 (l1.length : Int)) := by rw [ha]; exact (putSel_off rfl).trans rfl
     replace ha := Aside0.mk ha
     have HI := Aside0.mk Q_HI
     have RB0 := Aside0.mk (Q_RB0 (hon 2 (by kernel_rfl)))
     have RA1 := Aside0.mk (Q_RA1 (hon 3 (by kernel_rfl)) hb_)
     obtain ⟨q_, z_, eo_⟩ := Kd.R_slice RA1.out; subst eo_
     refine goes_ Try.func64 (by kernel_rfl) rfl #[.slice q_ ([-1] : List Int).length z_, .int .i64 (l1.length : Int)] (by rfl) rfl rfl (by first | (simp only [List.map_toArray, List.map_cons, List.map_nil, Act.eval, Array.getD_eq_getD_getElem?, Option.getD_some, e29, e30]; done) | (simp only [List.map_toArray, List.map_cons, List.map_nil, Act.eval, Array.getD_eq_getD_getElem?, Option.getD_some, e29, e30]; rfl)) ?_
     refine (slices_Repeat_int_int.calls q_ z_ ([-1] : List Int) (l1.length : Int) (List.replicate l1.length (-1)) w' (Kd.R_reads' RA1.out).2.2 (Kd.R_reads' RA1.out).2.1 (HREP.out _)).mono ?_
     rintro e_ w4 ⟨u_, rfl, hu_, hb_4⟩
     refine ⟨_, rfl, ?_⟩
     refine hK.out _ _ ⟨(fun k_ => if w'.heap.size ≤ k_ then 3 else col k_), u0, v0, .slice q_ ([-1] : List Int).length z_, u_, v2, v3, m10_, m11_, m12_, m13_, (by rw [ha.out]; exact putSel_upk 3 hb_ rfl rfl rfl), below_step HI.out hb_4, fun _ h1_ => absurd ((hon 2 (by kernel_rfl)).symm.trans h1_) (by decide), fun _ => col_below RB0.out hb_4 3, fun _ h1_ => absurd ((up_self b 5).symm.trans h1_) (by decide), fun _ => col_new hu_ HI.out.size 3, fun h0_ => col_below (Q_RC h0_) hb_4 3, fun h0_ => col_below (Q_RD h0_) hb_4 3, fun h0_ => absurd ((hoff 10 (by kernel_rfl)).symm.trans h0_) (by decide), fun h0_ => absurd ((hoff 11 (by kernel_rfl)).symm.trans h0_) (by decide), fun h0_ => absurd ((hoff 12 (by kernel_rfl)).symm.trans h0_) (by decide), fun h0_ => absurd ((hoff 13 (by kernel_rfl)).symm.trans h0_) (by decide)⟩
   refine steps_cons ?_ ?_
   · rintro b a w' ⟨col, u0, v0, u1, v1, v2, v3, m10_, m11_, m12_, m13_, ha, Q_HI, Q_RA0, Q_RB0, Q_RA1, Q_RB1, Q_RC, Q_RD, Q_X10_, Q_X11_, Q_X12_, Q_X13_⟩ hb_ hon hoff
     refine ⟨_, rfl, fun K hK => ?_⟩
     have e32 : a.tmps[32]? = some (.int .i64 (l1.length : Int)) := by rw [ha]; exact (putSel_off rfl).trans rfl
     replace ha := Aside0.mk ha
     have HI := Aside0.mk Q_HI
     refine Kd.R_make_step Kd.bool (w0 := w') w'.heap.size 4 (by rfl) (N := 33) rfl 65 _ _ rfl (l1.length : Int) (by simp only [Act.eval, Array.getD_eq_getD_getElem?, e32, Option.getD_some]) (by simp only [Act.eval, Array.getD_eq_getD_getElem?, e32, Option.getD_some]) Try.underlying65 (.bool false) 1 info4 rfl (by decide) (by omega) false (ok := fun _ => True) (okp := fun _ => True) rfl (fun _ hk => hk) trivial (by omega) (by have := HL.out; omega) (Below.refl _ _) (Nat.le_refl _) ?_
     intro u_ w4 hu_ hb_4 _ _
     rw [Int.toNat_natCast] at hu_
     refine hK.out _ _ ⟨(fun k_ => if w'.heap.size ≤ k_ then 4 else col k_), u0, v0, u1, v1, u_, v3, m10_, m11_, m12_, m13_, (by rw [ha.out]; exact putSel_upk 4 hb_ rfl rfl rfl), below_step HI.out hb_4, fun h0_ h1_ => col_below (Q_RA0 h0_ h1_) hb_4 4, fun h0_ => col_below (Q_RB0 h0_) hb_4 4, fun h0_ h1_ => col_below (Q_RA1 h0_ h1_) hb_4 4, fun h0_ => col_below (Q_RB1 h0_) hb_4 4, fun _ => col_new hu_ HI.out.size 4, fun h0_ => col_below (Q_RD h0_) hb_4 4, Q_X10_, Q_X11_, fun h0_ => absurd ((hoff 12 (by kernel_rfl)).symm.trans h0_) (by decide), fun h0_ => absurd ((hoff 13 (by kernel_rfl)).symm.trans h0_) (by decide)⟩
   refine steps_cons ?_ ?_
   · rintro b a w' ⟨col, u0, v0, u1, v1, v2, v3, m10_, m11_, m12_, m13_, ha, Q_HI, Q_RA0, Q_RB0, Q_RA1, Q_RB1, Q_RC, Q_RD, Q_X10_, Q_X11_, Q_X12_, Q_X13_⟩ hb_ hon hoff
     refine ⟨_, rfl, fun K hK => ?_⟩
     have e34 : a.tmps[34]? = some (.int .i64 a3) := by rw [ha]; exact (putSel_off rfl).trans rfl
     replace ha := Aside0.mk ha
     have HI := Aside0.mk Q_HI
     refine Kd.R_lit_step (Kd.int .i64) (w0 := w') w'.heap.size 3 ?hg (N := 35) ?hd (xs := ([a3] : List Int)) (inner := [.int .i64 a3]) (ok := fun _ => True) (okp := fun _ => True) ?hr (Reps.one (show Kd.M (Kd.int .i64) _ _ _ a3 [.int .i64 a3] from rfl) (Reps.none _ _)) (fun _ hk => hk) trivial (Below.refl _ _) (Nat.le_refl _) (by simp) ?_; (case hd => rfl); (case hg => rfl); (case hr => first | (go_simp; done) | (go_simp; rfl))
     intro u_ w4 hu_ hb_4 _ _
     refine hK.out _ _ ⟨(fun k_ => if w'.heap.size ≤ k_ then 5 else col k_), u0, v0, u1, v1, v2, u_, m10_, m11_, m12_, m13_, (by rw [ha.out]; exact putSel_upk 5 hb_ rfl rfl rfl), below_step HI.out hb_4, fun h0_ h1_ => col_below (Q_RA0 h0_ h1_) hb_4 5, fun h0_ => col_below (Q_RB0 h0_) hb_4 5, fun h0_ h1_ => col_below (Q_RA1 h0_ h1_) hb_4 5, fun h0_ => col_below (Q_RB1 h0_) hb_4 5, fun h0_ => col_below (Q_RC h0_) hb_4 5, fun _ => col_new hu_ HI.out.size 5, Q_X10_, Q_X11_, Q_X12_, fun h0_ => absurd ((hoff 13 (by kernel_rfl)).symm.trans h0_) (by decide)⟩
   refine steps_cons ?_ ?_
   · rintro b a w' ⟨col, u0, v0, u1, v1, v2, v3, m10_, m11_, m12_, m13_, ha, Q_HI, Q_RA0, Q_RB0, Q_RA1, Q_RB1, Q_RC, Q_RD, Q_X10_, Q_X11_, Q_X12_, Q_X13_⟩ hb_ hon hoff
     refine ⟨_, rfl, fun K hK => ?_⟩
     have e28 : a.tmps[28]? = some (v0) := by rw [ha]; exact putSel_on (e := (2, 28, v0)) 1 rfl rfl (hon 2 (by kernel_rfl)) rfl
     replace ha := Aside0.mk ha
     have HI := Aside0.mk Q_HI
     have RB0 := Aside0.mk (Q_RB0 (hon 2 (by kernel_rfl)))
     have RB1 := Aside0.mk (Q_RB1 (hon 5 (by kernel_rfl)))
     refine value_ (w1 := w') (v := v0) (by rfl) rfl ?_ ?_
     · go_simp
       (try simp only [i64_w])
       try rfl
     refine hK.out _ _ ⟨col, u0, v0, u1, v1, v2, v3, (v0), m11_, m12_, m13_, (by rw [ha.out]; exact putSel_upk 6 hb_ rfl rfl rfl), Q_HI, fun _ h1_ => absurd ((hon 2 (by kernel_rfl)).symm.trans h1_) (by decide), Q_RB0, fun _ h1_ => absurd ((hon 5 (by kernel_rfl)).symm.trans h1_) (by decide), Q_RB1, Q_RC, Q_RD, fun _ => rfl, fun h0_ => absurd ((hoff 11 (by kernel_rfl)).symm.trans h0_) (by decide), fun h0_ => absurd ((hoff 12 (by kernel_rfl)).symm.trans h0_) (by decide), fun h0_ => absurd ((hoff 13 (by kernel_rfl)).symm.trans h0_) (by decide)⟩
   refine steps_cons ?_ ?_
   · rintro b a w' ⟨col, u0, v0, u1, v1, v2, v3, m10_, m11_, m12_, m13_, ha, Q_HI, Q_RA0, Q_RB0, Q_RA1, Q_RB1, Q_RC, Q_RD, Q_X10_, Q_X11_, Q_X12_, Q_X13_⟩ hb_ hon hoff
     refine ⟨_, rfl, fun K hK => ?_⟩
     have e31 : a.tmps[31]? = some (v1) := by rw [ha]; exact putSel_on (e := (5, 31, v1)) 3 rfl rfl (hon 5 (by kernel_rfl)) rfl
     replace ha := Aside0.mk ha
     have HI := Aside0.mk Q_HI
     have RB0 := Aside0.mk (Q_RB0 (hon 2 (by kernel_rfl)))
     have RB1 := Aside0.mk (Q_RB1 (hon 5 (by kernel_rfl)))
     refine value_ (w1 := w') (v := v1) (by rfl) rfl ?_ ?_
     · go_simp
       (try simp only [i64_w])
       try rfl
     refine hK.out _ _ ⟨col, u0, v0, u1, v1, v2, v3, m10_, (v1), m12_, m13_, (by rw [ha.out]; exact putSel_upk 7 hb_ rfl rfl rfl), Q_HI, fun _ h1_ => absurd ((hon 2 (by kernel_rfl)).symm.trans h1_) (by decide), Q_RB0, fun _ h1_ => absurd ((hon 5 (by kernel_rfl)).symm.trans h1_) (by decide), Q_RB1, Q_RC, Q_RD, Q_X10_, fun _ => rfl, fun h0_ => absurd ((hoff 12 (by kernel_rfl)).symm.trans h0_) (by decide), fun h0_ => absurd ((hoff 13 (by kernel_rfl)).symm.trans h0_) (by decide)⟩
   refine steps_cons ?_ ?_
   · rintro b a w' ⟨col, u0, v0, u1, v1, v2, v3, m10_, m11_, m12_, m13_, ha, Q_HI, Q_RA0, Q_RB0, Q_RA1, Q_RB1, Q_RC, Q_RD, Q_X10_, Q_X11_, Q_X12_, Q_X13_⟩ hb_ hon hoff
     refine ⟨_, rfl, fun K hK => ?_⟩
     have e33 : a.tmps[33]? = some (v2) := by rw [ha]; exact putSel_on (e := (7, 33, v2)) 4 rfl rfl (hon 7 (by kernel_rfl)) rfl
     replace ha := Aside0.mk ha
     have HI := Aside0.mk Q_HI
     have RB0 := Aside0.mk (Q_RB0 (hon 2 (by kernel_rfl)))
     have RB1 := Aside0.mk (Q_RB1 (hon 5 (by kernel_rfl)))
     have RC := Aside0.mk (Q_RC (hon 7 (by kernel_rfl)))
     refine value_ (w1 := w') (v := v2) (by rfl) rfl ?_ ?_
     · go_simp
       (try simp only [i64_w])
       try rfl
     refine hK.out _ _ ⟨col, u0, v0, u1, v1, v2, v3, m10_, m11_, (v2), m13_, (by rw [ha.out]; exact putSel_upk 8 hb_ rfl rfl rfl), Q_HI, fun _ h1_ => absurd ((hon 2 (by kernel_rfl)).symm.trans h1_) (by decide), Q_RB0, fun _ h1_ => absurd ((hon 5 (by kernel_rfl)).symm.trans h1_) (by decide), Q_RB1, Q_RC, Q_RD, Q_X10_, Q_X11_, fun _ => rfl, fun h0_ => absurd ((hoff 13 (by kernel_rfl)).symm.trans h0_) (by decide)⟩
   refine steps_cons ?_ ?_
   · rintro b a w' ⟨col, u0, v0, u1, v1, v2, v3, m10_, m11_, m12_, m13_, ha, Q_HI, Q_RA0, Q_RB0, Q_RA1, Q_RB1, Q_RC, Q_RD, Q_X10_, Q_X11_, Q_X12_, Q_X13_⟩ hb_ hon hoff
     refine ⟨_, rfl, fun K hK => ?_⟩
     have e35 : a.tmps[35]? = some (v3) := by rw [ha]; exact putSel_on (e := (9, 35, v3)) 5 rfl rfl (hon 9 (by kernel_rfl)) rfl
     replace ha := Aside0.mk ha
     have HI := Aside0.mk Q_HI
     have RB0 := Aside0.mk (Q_RB0 (hon 2 (by kernel_rfl)))
     have RB1 := Aside0.mk (Q_RB1 (hon 5 (by kernel_rfl)))
     have RC := Aside0.mk (Q_RC (hon 7 (by kernel_rfl)))
     have RD := Aside0.mk (Q_RD (hon 9 (by kernel_rfl)))
     refine value_ (w1 := w') (v := v3) (by rfl) rfl ?_ ?_
     · go_simp
       (try simp only [i64_w])
       try rfl
     refine hK.out _ _ ⟨col, u0, v0, u1, v1, v2, v3, m10_, m11_, m12_, (v3), (by rw [ha.out]; exact putSel_upk 9 hb_ rfl rfl rfl), Q_HI, fun _ h1_ => absurd ((hon 2 (by kernel_rfl)).symm.trans h1_) (by decide), Q_RB0, fun _ h1_ => absurd ((hon 5 (by kernel_rfl)).symm.trans h1_) (by decide), Q_RB1, Q_RC, Q_RD, Q_X10_, Q_X11_, Q_X12_, fun _ => rfl⟩
   exact steps_nil
 rintro b a w' hall ⟨col, u0, v0, u1, v1, v2, v3, m10_, m11_, m12_, m13_, ha, Q_HI, Q_RA0, Q_RB0, Q_RA1, Q_RB1, Q_RC, Q_RD, Q_X10_, Q_X11_, Q_X12_, Q_X13_⟩
 clear HI
 have hb0_ := hall 0 (by kernel_rfl)
 have hb2_ := hall 2 (by kernel_rfl)
 have hb3_ := hall 3 (by kernel_rfl)
 have hb5_ := hall 5 (by kernel_rfl)
 have hb7_ := hall 7 (by kernel_rfl)
 have hb9_ := hall 9 (by kernel_rfl)
 have hb10_ := hall 10 (by kernel_rfl)
 have hb11_ := hall 11 (by kernel_rfl)
 have hb12_ := hall 12 (by kernel_rfl)
 have hb13_ := hall 13 (by kernel_rfl)
 subst ha
 obtain rfl := Q_X10_ hb10_
 obtain rfl := Q_X11_ hb11_
 obtain rfl := Q_X12_ hb12_
 obtain rfl := Q_X13_ hb13_
 simp only [putSel, hb0_, hb2_, hb3_, hb5_, hb7_, hb9_, hb10_, hb11_, hb12_, hb13_, if_true, Act.put, List.setIfInBounds_toArray, List.set_cons_zero, List.set_cons_succ]
 have HI := Aside0.mk Q_HI
 clear Q_HI
 clear Q_RA0
 have RB0 := Aside0.mk (Q_RB0 hb2_)
 clear Q_RB0
 clear Q_RA1
 have RB1 := Aside0.mk (Q_RB1 hb5_)
 clear Q_RB1
 have RC := Aside0.mk (Q_RC hb7_)
 clear Q_RC
 have RD := Aside0.mk (Q_RD hb9_)
 clear Q_RD
 clear hall hb0_ hb2_ hb3_ hb5_ hb7_ hb9_ hb10_ hb11_ hb12_ hb13_
 obtain ⟨gl, cl, e_, Egl, lgl_, _⟩ := Kd.R_form RB0.out (by first | (rw [List.length_replicate]; have := HL.out; omega) | simp)
 rw [List.length_replicate] at e_
 subst e_
 have Kgl : col gl = 1 := RB0.out.1 gl (by simp [Value.ownBlock])
 obtain ⟨gf, cf, e_, Egf, lgf_, _⟩ := Kd.R_form RB1.out (by first | (rw [List.length_replicate]; have := HL.out; omega) | simp)
 rw [List.length_replicate] at e_
 subst e_
 have Kgf : col gf = 3 := RB1.out.1 gf (by simp [Value.ownBlock])
 obtain ⟨gg, cg, e_, Egg, lgg_, _⟩ := Kd.R_form RC.out (by first | (rw [List.length_replicate]; have := HL.out; omega) | simp)
 rw [List.length_replicate] at e_
 subst e_
 have Kgg : col gg = 4 := RC.out.1 gg (by simp [Value.ownBlock])
 obtain ⟨gw, cw, e_, Egw, lgw_, _⟩ := Kd.R_form RD.out (by first | (rw [List.length_replicate]; have := HL.out; omega) | simp)
 subst e_
 have Kgw : col gw = 5 := RD.out.1 gw (by simp [Value.ownBlock])
 have HWW := Aside0.mk (below_step HBW.out HI.out)
 have hsz := HB.out.size
 have hsz2 := HBW.out.size
 have hgb := GB.out
 have hgb3 := blk_lt BK.out
 have hap := HAP.out
 have HA := Aside0.mk (show Ap w0 w P ⟨gL, cL, gB, cB, gO, cO, gl, cl, gf, cf, gg, cg, gb⟩ from ⟨nd7i ⟨⟨hap.1.1, hap.1.2.1, Nat.ne_of_lt (show gL < gl by omega), Nat.ne_of_lt (show gL < gf by omega), Nat.ne_of_lt (show gL < gg by omega), Nat.ne_of_lt (show gL < gb by omega)⟩, ⟨hap.1.2.2, Nat.ne_of_lt (show gB < gl by omega), Nat.ne_of_lt (show gB < gf by omega), Nat.ne_of_lt (show gB < gg by omega), Nat.ne_of_lt (show gB < gb by omega)⟩, ⟨Nat.ne_of_lt (show gO < gl by omega), Nat.ne_of_lt (show gO < gf by omega), Nat.ne_of_lt (show gO < gg by omega), Nat.ne_of_lt (show gO < gb by omega)⟩, ⟨fun e => absurd (Kgl.symm.trans ((congrArg col e).trans Kgf)) (by decide), fun e => absurd (Kgl.symm.trans ((congrArg col e).trans Kgg)) (by decide), Nat.ne_of_gt (show gb < gl by omega)⟩, ⟨fun e => absurd (Kgf.symm.trans ((congrArg col e).trans Kgg)) (by decide), Nat.ne_of_gt (show gb < gf by omega)⟩, Nat.ne_of_gt (show gb < gg by omega)⟩, ⟨hap.2.2.2.1, .inl hap.2.1.1⟩, ⟨hap.2.2.2.2.1, .inl hap.2.1.2.1⟩, ⟨hap.2.2.2.2.2, .inl hap.2.1.2.2⟩, ⟨show w0.heap.size ≤ gl by omega, .inr (show w.heap.size ≤ gl by omega)⟩, ⟨show w0.heap.size ≤ gf by omega, .inr (show w.heap.size ≤ gf by omega)⟩, ⟨show w0.heap.size ≤ gg by omega, .inr (show w.heap.size ≤ gg by omega)⟩⟩)
 have HS := Aside0.mk (show St w0 w P l1.length ⟨gL, cL, gB, cB, gO, cO, gl, cl, gf, cf, gg, cg, gb⟩ #[.slice (some ⟨gL, 0, none⟩) l1.length cL, .slice (some ⟨gB, 0, none⟩) l1.length cB] 33 l0_0 l0_1 l2 (List.replicate l1.length 1099511627776) (List.replicate l1.length (-1)) (List.replicate l1.length false) w' from ⟨Kd.R_below HLL.out HWW.out, Kd.R_below HLB.out HWW.out, Kd.R_below HLO.out HWW.out, Kd.R_lower (Kd.R_mono (ok' := fun k => k = gl) (Kd.R_tight rfl RB0.out) (fun k hk => by simpa [Value.ownBlock] using hk)) HB.out.size, Kd.R_lower (Kd.R_mono (ok' := fun k => k = gf) (Kd.R_tight rfl RB1.out) (fun k hk => by simpa [Value.ownBlock] using hk)) HB.out.size, Kd.R_lower (Kd.R_mono (ok' := fun k => k = gg) (Kd.R_tight rfl RC.out) (fun k hk => by simpa [Value.ownBlock] using hk)) HB.out.size, blk_below BK.out HI.out, below_step HB.out HI.out, Kept.below HK.out HI.out⟩)
 have HW := Aside0.mk (show RW w0 w ⟨gL, cL, gB, cB, gO, cO, gl, cl, gf, cf, gg, cg, gb⟩ w' (some ⟨gw, 0, none⟩) cw [a3] from Kd.R_lower (Kd.R_mono (Kd.R_bound RD.out) (fun k hk => ⟨by have := hk.2.1; omega, fun hm => by
   have h2 := hk.2.1
   have h1 : col k = 5 := hk.1
   clear HS HA
   simp only [Gs.all, List.mem_cons, List.not_mem_nil, or_false] at hm
   rcases hm with rfl | rfl | rfl | rfl | rfl | rfl | rfl <;> omega⟩)) HB.out.size)
 clear HLL HLB HLO RB0 RB1 RC RD HWW hsz hsz2 hgb hgb3 hap Egl lgl_ Egf lgf_ Egg lgg_ Egw lgw_ Kgl Kgf Kgg Kgw BK HI HB HK HBW GB HAP HREP
 try go_wp2
 go_loopg [12, 13] (l1.length + 1) (fun gk v12 v13 w' => ∃ (ls fr : List Int) (gn : List Bool) (wy : List Int) (last : Int) (L B : List Int) (Aw : Option Addr) (cw : Nat), v12 = .slice Aw wy.length cw ∧ v13 = .int .i64 last ∧ Aside0 ((wy.length + gk = l1.length + 2 ∧ 1 ≤ wy.length) ∧ last < (l1.length : Int) ∧ (∀ i ∈ wy, 0 ≤ i ∧ i < (l1.length : Int)) ∧ (∀ x ∈ fr, x < (l1.length : Int))) ∧ Aside0 (outF l1 l2 l1.length gk ls fr gn wy last L B = some s) ∧ Aside0 (St w0 w P l1.length ⟨gL, cL, gB, cB, gO, cO, gl, cl, gf, cf, gg, cg, gb⟩ #[.slice (some ⟨gL, 0, none⟩) l1.length cL, .slice (some ⟨gB, 0, none⟩) l1.length cB] 33 L B l2 ls fr gn w') ∧ Aside0 (RW w0 w ⟨gL, cL, gB, cB, gO, cO, gl, cl, gf, cf, gg, cg, gb⟩ w' Aw cw wy))
 case atStart => exact ⟨_, _, _, [a3], -1, l0_0, l0_1, _, _, rfl, rfl, ⟨⟨by simp; omega, by simp⟩, by have := HL.out; omega, fun i hi => by rw [List.mem_singleton] at hi; subst hi; exact HL.out.2, fun x hx => by rw [(List.mem_replicate.1 hx).2]; have := HL.out; omega⟩, HOUT, HS, HW⟩
 case round =>
  clear HOUT HS HW
  obtain ⟨ls, fr, gn, wy, last, L, B, Aw, cw, rfl, rfl, HF, HO, HS, HW⟩ := hrel
  cases gk with
  | zero => exact absurd HO.out (by simp [outF])
  | succ k1 =>
   obtain ⟨own, hown⟩ : ∃ o_, rd wy ((wy.length : Int) - 1) = o_ := ⟨_, rfl⟩
   obtain ⟨S, hS⟩ : ∃ S_, scanF l1 L B gn last own l1.length 0 (ls, fr, -1) = S_ := ⟨_, rfl⟩
   obtain ⟨by_, hby⟩ : ∃ b_, rd S.1 S.2.2 = b_ := ⟨_, rfl⟩
   obtain ⟨Q, hQ⟩ : ∃ Q_, binF by_ gn l1.length 0 (S.1, B) = Q_ := ⟨_, rfl⟩
   obtain ⟨L2, hL2⟩ : ∃ L_, addF by_ L wy = L_ := ⟨_, rfl⟩
   have h := HO.out
   rw [outF_eq l1 l2 l1.length k1 ls fr gn wy last L B (by rw [hown]; exact hS) hby hQ hL2] at h
   by_cases c1 : 0 ≤ S.2.2
   case neg => rw [if_neg c1] at h; cases h
   rw [if_pos c1] at h
   obtain ⟨⟨hw1, hw2⟩, hlast, hwy, hfr⟩ := HF.out
   have hlen := HS.out.lens
   have hsc : Scan l1.length S := hS ▸ scanF_ok l1 L B gn last own l1.length hlast l1.length 0 _ (by omega) (by omega) ⟨hlen.2.2.2.1, hlen.2.2.2.2.1, ⟨show (-1 : Int) ≤ -1 by omega, show (-1 : Int) < (l1.length : Int) by have := HL.out; omega⟩, hfr⟩
   have HSC := Aside0.mk (show (0 ≤ S.2.2 ∧ S.2.2 < (l1.length : Int)) ∧ (∀ x ∈ S.2.1, x < (l1.length : Int)) from ⟨⟨c1, hsc.2.2.1.2⟩, hsc.2.2.2⟩)
   have HOW := Aside0.mk (show 0 ≤ own ∧ own < (l1.length : Int) from hown ▸ rd_in hwy (by omega) (by omega))
   have HSF := Aside0.mk hS
   have HBY := Aside0.mk hby
   have HQ := Aside0.mk hQ
   have HL2 := Aside0.mk hL2
   have HH := Aside0.mk h
   have HS0 := Aside0.mk (show Scan l1.length (ls, fr, -1) from ⟨hlen.2.2.2.1, hlen.2.2.2.2.1, ⟨show (-1 : Int) ≤ -1 by omega, show (-1 : Int) < (l1.length : Int) by have := HL.out; omega⟩, hfr⟩)
   obtain ⟨ji, hji⟩ : ∃ j_ : Int, (wy.length : Int) - 1 = j_ := ⟨_, rfl⟩
   have hjw : (IntKind.i64.wrap ((wy.length : Int) - 1)) = ji := (IntWalk.i64_in _ (by have := HL.out; omega)).trans hji
   have pj : (0 ≤ ji) = True := eq_true (by omega)
   have qj : (ji < (wy.length : Int)) = True := eq_true (by omega)
   obtain ⟨adw, ew, hxw⟩ := Kd.at_int (Kd.R_reads' HW.out).2.2 ji (by omega) (by omega)
   cases ew
   have hxw2 : rd wy ji = own := by rw [← hji]; exact hown
   rw [hxw2] at hxw
   clear hown hS hby hQ hL2 h c1 hw1 hw2 hlast hwy hfr hlen hsc hji hxw2 HO
   go_wp2
   go_loopg [15, 43] l1.length (fun gk v15 v43 w' => ∃ (x b : Int) (ls1 fr1 : List Int), v15 = .int .i64 b ∧ v43 = .int .i64 x ∧ Aside0 ((0 ≤ x ∧ x + gk = (l1.length : Int)) ∧ Scan l1.length (ls1, fr1, b)) ∧ Aside0 (scanF l1 L B gn last own gk x (ls1, fr1, b) = S) ∧ Aside0 (St w0 w P l1.length ⟨gL, cL, gB, cB, gO, cO, gl, cl, gf, cf, gg, cg, gb⟩ #[.slice (some ⟨gL, 0, none⟩) l1.length cL, .slice (some ⟨gB, 0, none⟩) l1.length cB] 33 L B l2 ls1 fr1 gn w') ∧ Aside0 (RW w0 w ⟨gL, cL, gB, cB, gO, cO, gl, cl, gf, cf, gg, cg, gb⟩ w' (some adw) cw wy))
   case atStart => exact ⟨0, -1, ls, fr, rfl, rfl, ⟨⟨by omega, by omega⟩, HS0.out⟩, HSF, HS, HW⟩
   case round =>
    clear HSF HS HW hxw pj qj hjw HS0
    obtain ⟨x, b, ls1, fr1, rfl, rfl, HX, HSF, HS, HW⟩ := hrel
    cases gk with
    | succ k2 =>
     have dx : decide (x < (l1.length : Int)) = true := decide_eq_true (by have := HX.out; omega)
     have px : (0 ≤ x) = True := eq_true (by have := HX.out; omega)
     have qx : (x < (l1.length : Int)) = True := eq_true (by have := HX.out; omega)
     have hx1 : wrap64 (x + 1) = x + 1 := by have := HX.out; have := HL.out; unfold wrap64; omega
     have HX0 := Aside0.mk (show 0 ≤ x ∧ x < (l1.length : Int) from ⟨of_eq_true px, of_eq_true qx⟩)
     by_cases hg : rdOf false gn x = true
     · have hcg : wr.cell? ⟨gg, x.toNat, none⟩ = some (.bool true) := by rw [← hg]; exact (HS.out.rg.cell x HX0.out.1 HX0.out.2).1
       have es : scanS l1 L B gn last own x (ls1, fr1, b) = (ls1, fr1, b) := by unfold scanS; rw [if_pos hg]
       clear hg
       go_wp2
       go_roundg k2
       case measure => omega
       case rel => exact ⟨x + 1, b, ls1, fr1, by first | rfl | rw [hx1], by first | rfl | rw [hx1], ⟨⟨by have := HX0.out; omega, by have := HX.out; omega⟩, by have h_ := scanS_ok l1 L B gn last own l1.length (by have := HF.out; omega) HX0.out.1 HX0.out.2 HX.out.2; rw [es] at h_; exact h_⟩, ⟨by have h_ := HSF.out; rw [scanF, es] at h_; exact h_⟩, HS, HW⟩
     · have hcg : wr.cell? ⟨gg, x.toNat, none⟩ = some (.bool false) := by rw [show false = rdOf false gn x by revert hg; cases rdOf false gn x <;> simp]; exact (HS.out.rg.cell x HX0.out.1 HX0.out.2).1
       have HG := Aside0.mk hg
       clear hg
       go_wp2
       replace HS := Aside0.mk HS.out.drew
       replace HW := Aside0.mk HW.out.drew
       have po : (0 ≤ own) = True := eq_true HOW.out.1
       have qo : (own < (l1.length : Int)) = True := eq_true HOW.out.2
       obtain ⟨adC, AC, cC, eC, hxC, hlC, hiC⟩ := at_L1 (Kd.C_kept_now HR1.out HS.out.kp) own HOW.out.1 HOW.out.2
       cases eC
       have hrl : (rd_L1 l1 own).length = l1.length := HROW.out _ (rd_mem HOW.out.1 HOW.out.2)
       rw [hrl] at hxC
       obtain ⟨adR, eR, hxR⟩ := Kd.at_int hiC x HX0.out.1 (by rw [hrl]; exact HX0.out.2)
       cases eR
       have hk0 : wr.drew.cell? ⟨gb, 0, none⟩ = some (.slice (some ⟨gL, 0, none⟩) l1.length cL) := (blk_cell HS.out.bk 0).trans rfl
       have hk1 : wr.drew.cell? ⟨gb, 1, none⟩ = some (.slice (some ⟨gB, 0, none⟩) l1.length cB) := (blk_cell HS.out.bk 1).trans rfl
       have hxL : wr.drew.cell? ⟨gL, own.toNat, none⟩ = some (.int .i64 (rd L own)) := (HS.out.rL.cell own HOW.out.1 HOW.out.2).1
       have hxB : wr.drew.cell? ⟨gB, x.toNat, none⟩ = some (.int .i64 (rd B x)) := (HS.out.rB.cell x HX0.out.1 HX0.out.2).1
       clear hcg hlC hiC hrl
       refine start_ (n := 20) (S := fun w' => w'.cell? ⟨gb, 0, none⟩ = some (.slice (some ⟨gL, 0, none⟩) l1.length cL) ∧ w'.cell? ⟨gb, 1, none⟩ = some (.slice (some ⟨gB, 0, none⟩) l1.length cB) ∧ w'.cell? (adC.add own.toNat) = some (.slice (some adR) l1.length cC) ∧ w'.cell? (adR.add x.toNat) = some (.int .i64 (rd (rd_L1 l1 own) x)) ∧ w'.cell? ⟨gL, own.toNat, none⟩ = some (.int .i64 (rd L own)) ∧ w'.cell? ⟨gB, x.toNat, none⟩ = some (.int .i64 (rd B x))) (ds := []) #[false, false, false, false, false, false, false, false, false, false, false, false, false, false, false, false, false, false, false, false] (by kernel_rfl) rfl rfl ⟨hk0, hk1, hxC, hxR, hxL, hxB⟩ (fun hHeld => ?_); refine with_tabW impl_Prices_place.tab10 impl_Prices_place.bits10 (fun HT_ HW_ => ?_)
       generalize wr.drew = w4 at HS HW hk0 hk1 hxC hxR hxL hxB hHeld ⊢
       refine pure_ (i := 0) (N := some 50) (v := ?_) (a' := ?_) #[true, false, false, false, false, false, false, false, false, false, false, false, false, false, false, false, false, false, false, false] rfl rfl (any_of HT_.out (by kernel_rfl)) (fun _ _ _ h => h) (Or.inl ⟨by rfl, ?_⟩) ?_ ?_
       rotate_left
       · intro w'
         go_simp
         with_reducible rfl
       rotate_left
       · simp only [Act.put, List.setIfInBounds_toArray, List.set_cons_zero, List.set_cons_succ, i64_w, i32_w]
         rfl
       refine pure_ (i := 1) (N := some 51) (v := ?_) (a' := ?_) #[true, true, false, false, false, false, false, false, false, false, false, false, false, false, false, false, false, false, false, false] rfl rfl (any_of HT_.out (by kernel_rfl)) (fun _ _ _ h => h) (Or.inl ⟨by rfl, ?_⟩) ?_ ?_
       rotate_left
       · intro w'
         go_simp
         with_reducible rfl
       rotate_left
       · simp only [Act.put, List.setIfInBounds_toArray, List.set_cons_zero, List.set_cons_succ, i64_w, i32_w]
         rfl
       refine pure_ (i := 2) (N := some 52) (v := ?_) (a' := ?_) #[true, true, true, false, false, false, false, false, false, false, false, false, false, false, false, false, false, false, false, false] rfl rfl (any_of HT_.out (by kernel_rfl)) (fun _ _ _ h => h) (Or.inl ⟨by rfl, ?_⟩) ?_ ?_
       rotate_left
       · intro w'
         go_simp
         with_reducible rfl
       rotate_left
       · simp only [Act.put, List.setIfInBounds_toArray, List.set_cons_zero, List.set_cons_succ, i64_w, i32_w]
         rfl
       refine pure_ (i := 4) (N := some 54) (v := ?_) (a' := ?_) #[true, true, true, false, true, false, false, false, false, false, false, false, false, false, false, false, false, false, false, false] rfl rfl (any_of HT_.out (by kernel_rfl)) (fun _ _ _ h => h) (Or.inl ⟨by rfl, ?_⟩) ?_ ?_
       rotate_left
       · intro w'
         go_simp
         with_reducible rfl
       rotate_left
       · simp only [Act.put, List.setIfInBounds_toArray, List.set_cons_zero, List.set_cons_succ, i64_w, i32_w]
         rfl
       refine pure_ (i := 7) (N := some 57) (v := ?_) (a' := ?_) #[true, true, true, false, true, false, false, true, false, false, false, false, false, false, false, false, false, false, false, false] rfl rfl (any_of HT_.out (by kernel_rfl)) (fun _ _ _ h => h) (Or.inl ⟨by rfl, ?_⟩) ?_ ?_
       rotate_left
       · intro w'
         go_simp
         with_reducible rfl
       rotate_left
       · simp only [Act.put, List.setIfInBounds_toArray, List.set_cons_zero, List.set_cons_succ, i64_w, i32_w]
         rfl
       refine pure_ (i := 9) (N := some 59) (v := ?_) (a' := ?_) #[true, true, true, false, true, false, false, true, false, true, false, false, false, false, false, false, false, false, false, false] rfl rfl (any_of HT_.out (by kernel_rfl)) (fun _ _ _ h => h) (Or.inl ⟨by rfl, ?_⟩) ?_ ?_
       rotate_left
       · intro w'
         go_simp
         with_reducible rfl
       rotate_left
       · simp only [Act.put, List.setIfInBounds_toArray, List.set_cons_zero, List.set_cons_succ, i64_w, i32_w]
         rfl
       refine pure_ (i := 13) (N := some 63) (v := ?_) (a' := ?_) #[true, true, true, false, true, false, false, true, false, true, false, false, false, true, false, false, false, false, false, false] rfl rfl (any_of HT_.out (by kernel_rfl)) (fun _ _ _ h => h) (Or.inl ⟨by rfl, ?_⟩) ?_ ?_
       rotate_left
       · intro w'
         go_simp
         with_reducible rfl
       rotate_left
       · simp only [Act.put, List.setIfInBounds_toArray, List.set_cons_zero, List.set_cons_succ, i64_w, i32_w]
         rfl
       refine pure_ (i := 15) (N := some 65) (v := ?_) (a' := ?_) #[true, true, true, false, true, false, false, true, false, true, false, false, false, true, false, true, false, false, false, false] rfl rfl (any_of HT_.out (by kernel_rfl)) (fun _ _ _ h => h) (Or.inl ⟨by rfl, ?_⟩) ?_ ?_
       rotate_left
       · intro w'
         go_simp
         with_reducible rfl
       rotate_left
       · simp only [Act.put, List.setIfInBounds_toArray, List.set_cons_zero, List.set_cons_succ, i64_w, i32_w]
         rfl
       refine take_ (i := 3) (N := some 53) (v := ?_) (a' := ?_) #[true, true, true, true, true, false, false, true, false, true, false, false, false, true, false, true, false, false, false, false] rfl rfl (take_ofW HT_.out HW_.out (by kernel_rfl)) (fun _ _ _ h => h) (Or.inl ⟨by rfl, ?_⟩) hHeld ?_ ?_
       rotate_left
       · rintro w' ⟨s0, s1, s2, s3, s4, s5⟩
         go_simp
         with_reducible rfl
       rotate_left
       · simp only [Act.put, List.setIfInBounds_toArray, List.set_cons_zero, List.set_cons_succ, i64_w, i32_w]
         rfl
       refine pure_ (i := 5) (N := some 55) (v := ?_) (a' := ?_) #[true, true, true, true, true, true, false, true, false, true, false, false, false, true, false, true, false, false, false, false] rfl rfl (any_of HT_.out (by kernel_rfl)) (fun _ _ _ h => h) (Or.inl ⟨by rfl, ?_⟩) ?_ ?_
       rotate_left
       · intro w'
         go_simp
         with_reducible rfl
       rotate_left
       · simp only [Act.put, List.setIfInBounds_toArray, List.set_cons_zero, List.set_cons_succ, i64_w, i32_w]
         rfl
       refine take_ (i := 6) (N := some 56) (v := ?_) (a' := ?_) #[true, true, true, true, true, true, true, true, false, true, false, false, false, true, false, true, false, false, false, false] rfl rfl (take_ofW HT_.out HW_.out (by kernel_rfl)) (fun _ _ _ h => h) (Or.inl ⟨by rfl, ?_⟩) hHeld ?_ ?_
       rotate_left
       · rintro w' ⟨s0, s1, s2, s3, s4, s5⟩
         go_simp
         with_reducible rfl
       rotate_left
       · simp only [Act.put, List.setIfInBounds_toArray, List.set_cons_zero, List.set_cons_succ, i64_w, i32_w]
         rfl
       refine take_ (i := 8) (N := some 58) (v := ?_) (a' := ?_) #[true, true, true, true, true, true, true, true, true, true, false, false, false, true, false, true, false, false, false, false] rfl rfl (take_ofW HT_.out HW_.out (by kernel_rfl)) (fun _ _ _ h => h) (Or.inl ⟨by rfl, ?_⟩) hHeld ?_ ?_
       rotate_left
       · rintro w' ⟨s0, s1, s2, s3, s4, s5⟩
         go_simp
         with_reducible rfl
       rotate_left
       · simp only [Act.put, List.setIfInBounds_toArray, List.set_cons_zero, List.set_cons_succ, i64_w, i32_w]
         rfl
       refine pure_ (i := 10) (N := some 60) (v := ?_) (a' := ?_) #[true, true, true, true, true, true, true, true, true, true, true, false, false, true, false, true, false, false, false, false] rfl rfl (any_of HT_.out (by kernel_rfl)) (fun _ _ _ h => h) (Or.inl ⟨by rfl, ?_⟩) ?_ ?_
       rotate_left
       · intro w'
         go_simp
         with_reducible rfl
       rotate_left
       · simp only [Act.put, List.setIfInBounds_toArray, List.set_cons_zero, List.set_cons_succ, i64_w, i32_w]
         rfl
       refine take_ (i := 11) (N := some 61) (v := ?_) (a' := ?_) #[true, true, true, true, true, true, true, true, true, true, true, true, false, true, false, true, false, false, false, false] rfl rfl (take_ofW HT_.out HW_.out (by kernel_rfl)) (fun _ _ _ h => h) (Or.inl ⟨by rfl, ?_⟩) hHeld ?_ ?_
       rotate_left
       · rintro w' ⟨s0, s1, s2, s3, s4, s5⟩
         go_simp
         with_reducible rfl
       rotate_left
       · simp only [Act.put, List.setIfInBounds_toArray, List.set_cons_zero, List.set_cons_succ, i64_w, i32_w]
         rfl
       refine pure_ (i := 12) (N := some 62) (v := ?_) (a' := ?_) #[true, true, true, true, true, true, true, true, true, true, true, true, true, true, false, true, false, false, false, false] rfl rfl (any_of HT_.out (by kernel_rfl)) (fun _ _ _ h => h) (Or.inl ⟨by rfl, ?_⟩) ?_ ?_
       rotate_left
       · intro w'
         go_simp
         with_reducible rfl
       rotate_left
       · simp only [Act.put, List.setIfInBounds_toArray, List.set_cons_zero, List.set_cons_succ, i64_w, i32_w]
         rfl
       refine take_ (i := 14) (N := some 64) (v := ?_) (a' := ?_) #[true, true, true, true, true, true, true, true, true, true, true, true, true, true, true, true, false, false, false, false] rfl rfl (take_ofW HT_.out HW_.out (by kernel_rfl)) (fun _ _ _ h => h) (Or.inl ⟨by rfl, ?_⟩) hHeld ?_ ?_
       rotate_left
       · rintro w' ⟨s0, s1, s2, s3, s4, s5⟩
         go_simp
         with_reducible rfl
       rotate_left
       · simp only [Act.put, List.setIfInBounds_toArray, List.set_cons_zero, List.set_cons_succ, i64_w, i32_w]
         rfl
       refine pure_ (i := 16) (N := some 66) (v := ?_) (a' := ?_) #[true, true, true, true, true, true, true, true, true, true, true, true, true, true, true, true, true, false, false, false] rfl rfl (any_of HT_.out (by kernel_rfl)) (fun _ _ _ h => h) (Or.inl ⟨by rfl, ?_⟩) ?_ ?_
       rotate_left
       · intro w'
         go_simp
         with_reducible rfl
       rotate_left
       · simp only [Act.put, List.setIfInBounds_toArray, List.set_cons_zero, List.set_cons_succ, i64_w, i32_w]
         rfl
       refine take_ (i := 17) (N := some 67) (v := ?_) (a' := ?_) #[true, true, true, true, true, true, true, true, true, true, true, true, true, true, true, true, true, true, false, false] rfl rfl (take_ofW HT_.out HW_.out (by kernel_rfl)) (fun _ _ _ h => h) (Or.inl ⟨by rfl, ?_⟩) hHeld ?_ ?_
       rotate_left
       · rintro w' ⟨s0, s1, s2, s3, s4, s5⟩
         go_simp
         with_reducible rfl
       rotate_left
       · simp only [Act.put, List.setIfInBounds_toArray, List.set_cons_zero, List.set_cons_succ, i64_w, i32_w]
         rfl
       refine pure_ (i := 18) (N := some 68) (v := ?_) (a' := ?_) #[true, true, true, true, true, true, true, true, true, true, true, true, true, true, true, true, true, true, true, false] rfl rfl (any_of HT_.out (by kernel_rfl)) (fun _ _ _ h => h) (Or.inl ⟨by rfl, ?_⟩) ?_ ?_
       rotate_left
       · intro w'
         go_simp
         with_reducible rfl
       rotate_left
       · simp only [Act.put, List.setIfInBounds_toArray, List.set_cons_zero, List.set_cons_succ, i64_w, i32_w]
         rfl
       refine pure_ (i := 19) (N := some 17) (v := ?_) (a' := ?_) #[true, true, true, true, true, true, true, true, true, true, true, true, true, true, true, true, true, true, true, true] rfl rfl (any_of HT_.out (by kernel_rfl)) (fun _ _ _ h => h) (Or.inl ⟨by rfl, ?_⟩) ?_ ?_
       rotate_left
       · intro w'
         go_simp
         with_reducible rfl
       rotate_left
       · simp only [Act.put, List.setIfInBounds_toArray, List.set_cons_zero, List.set_cons_succ, i64_w, i32_w]
         rfl
       refine done_ (done_of HT_.out (by kernel_rfl)) ?_
       have kl : w4.cell? ⟨gl, x.toNat, none⟩ = some (.int .i64 (rd ls1 x)) := (HS.out.rl.cell x HX0.out.1 HX0.out.2).1
       have fl : w4.frozen? ⟨gl, x.toNat, none⟩ = false := (HS.out.rl.cell x HX0.out.1 HX0.out.2).2
       clear hk0 hk1 hxC hxR hxL hxB hHeld
       by_cases hc : (wrap64 ((wrap64 ((rd (rd_L1 l1 own) x) - (rd L own))) - (rd B x))) < rd ls1 x
       · have dc : decide ((wrap64 ((wrap64 ((rd (rd_L1 l1 own) x) - (rd L own))) - (rd B x))) < rd ls1 x) = true := decide_eq_true hc
         have HCC := Aside0.mk hc
         clear hc
         go_wp2_with (first | ((with_reducible refine gate_store (t := 3) (p := 81) rfl ?_); refine store_event (t := 3) (p := 81) (v := ?vo_1) (w1 := (w4.setCell ⟨gl, x.toNat, none⟩ (.int .i64 (wrap64 ((wrap64 ((rd (rd_L1 l1 own) x) - (rd L own))) - (rd B x)))))) ?hg ?ho ?hn ?hr ?_; (case ho => rfl); (case hg => rfl); (case hn => rfl); (case hr => first | (go_simp; done) | (go_simp; rfl)); intro w5 hw_; have HS5 := Aside0.mk (show St w0 w P l1.length ⟨gL, cL, gB, cB, gO, cO, gl, cl, gf, cf, gg, cg, gb⟩ #[.slice (some ⟨gL, 0, none⟩) l1.length cL, .slice (some ⟨gB, 0, none⟩) l1.length cB] 33 L B l2 (ls1.set x.toNat (wrap64 ((wrap64 ((rd (rd_L1 l1 own) x) - (rd L own))) - (rd B x)))) fr1 gn w5 by rw [hw_]; exact HS.out.sl HA.out x (wrap64 ((wrap64 ((rd (rd_L1 l1 own) x) - (rd L own))) - (rd B x)))); have HW5 := Aside0.mk (show RW w0 w ⟨gL, cL, gB, cB, gO, cO, gl, cl, gf, cf, gg, cg, gb⟩ w5 (some adw) cw wy by rw [hw_]; exact RW.far HW.out (p := ⟨gl, x.toNat, none⟩) (show gl ∈ Gs.all ⟨gL, cL, gB, cB, gO, cO, gl, cl, gf, cf, gg, cg, gb⟩ by simp [Gs.all]) _); have kf : w5.cell? ⟨gf, x.toNat, none⟩ = some (.int .i64 (rd fr1 x)) := (HS5.out.rf.cell x HX0.out.1 HX0.out.2).1; have ff : w5.frozen? ⟨gf, x.toNat, none⟩ = false := (HS5.out.rf.cell x HX0.out.1 HX0.out.2).2; clear HS HW kl fl; clear hw_) | ((with_reducible refine gate_store (t := 3) (p := 82) rfl ?_); refine store_event (t := 3) (p := 82) (v := ?vo_2) (w1 := (w5.setCell ⟨gf, x.toNat, none⟩ (.int .i64 last))) ?hg ?ho ?hn ?hr ?_; (case ho => rfl); (case hg => rfl); (case hn => rfl); (case hr => first | (go_simp; done) | (go_simp; rfl)); intro w6 hw_; have HS := Aside0.mk (show St w0 w P l1.length ⟨gL, cL, gB, cB, gO, cO, gl, cl, gf, cf, gg, cg, gb⟩ #[.slice (some ⟨gL, 0, none⟩) l1.length cL, .slice (some ⟨gB, 0, none⟩) l1.length cB] 33 L B l2 (ls1.set x.toNat (wrap64 ((wrap64 ((rd (rd_L1 l1 own) x) - (rd L own))) - (rd B x)))) (fr1.set x.toNat last) gn w6 by rw [hw_]; exact HS5.out.sf HA.out x last); have HW := Aside0.mk (show RW w0 w ⟨gL, cL, gB, cB, gO, cO, gl, cl, gf, cf, gg, cg, gb⟩ w6 (some adw) cw wy by rw [hw_]; exact RW.far HW5.out (p := ⟨gf, x.toNat, none⟩) (show gf ∈ Gs.all ⟨gL, cL, gB, cB, gO, cO, gl, cl, gf, cf, gg, cg, gb⟩ by simp [Gs.all]) _); clear HS5 HW5 kf ff; clear hw_))
         replace HS := Aside0.mk HS.out.drew
         replace HW := Aside0.mk HW.out.drew
         by_cases hb0 : b < 0
         · have db : decide (b < 0) = true := decide_eq_true hb0
           have es : scanS l1 L B gn last own x (ls1, fr1, b) = ((ls1.set x.toNat (wrap64 ((wrap64 ((rd (rd_L1 l1 own) x) - (rd L own))) - (rd B x)))), (fr1.set x.toNat last), x) := by unfold scanS; rw [if_neg HG.out, if_pos (show seenV l1 L B own x < rd ls1 x from HCC.out)]; simp only [pickB]; rw [show seenV l1 L B own x = (wrap64 ((wrap64 ((rd (rd_L1 l1 own) x) - (rd L own))) - (rd B x))) from rfl]; rw [if_pos hb0]
           clear hb0
           refine start_ (n := 13) (S := fun w' => True) (ds := []) #[false, false, false, false, false, false, false, false, false, false, false, false, false] (by kernel_rfl) rfl rfl trivial (fun hHeld => ?_); refine with_tabW impl_Prices_place.tab13 impl_Prices_place.bits13 (fun HT_ HW_ => ?_)
           generalize w6.drew = w8 at HS HW hHeld ⊢
           refine pure_ (i := 0) (N := some 83) (v := ?_) (a' := ?_) #[true, false, false, false, false, false, false, false, false, false, false, false, false] rfl rfl (any_of HT_.out (by kernel_rfl)) (fun _ _ _ h => h) (Or.inl ⟨by rfl, ?_⟩) ?_ ?_
           rotate_left
           · intro w'
             go_simp
             with_reducible rfl
           rotate_left
           · simp only [Act.put, List.setIfInBounds_toArray, List.set_cons_zero, List.set_cons_succ, i64_w, i32_w]
             rfl
           refine pure_ (i := 1) (N := some 84) (v := ?_) (a' := ?_) #[true, true, false, false, false, false, false, false, false, false, false, false, false] rfl rfl (any_of HT_.out (by kernel_rfl)) (fun _ _ _ h => h) (Or.inl ⟨by rfl, ?_⟩) ?_ ?_
           rotate_left
           · intro w'
             go_simp
             with_reducible rfl
           rotate_left
           · simp only [Act.put, List.setIfInBounds_toArray, List.set_cons_zero, List.set_cons_succ, i64_w, i32_w]
             rfl
           refine pure_ (i := 2) (N := some 85) (v := ?_) (a' := ?_) #[true, true, true, false, false, false, false, false, false, false, false, false, false] rfl rfl (any_of HT_.out (by kernel_rfl)) (fun _ _ _ h => h) (Or.inl ⟨by rfl, ?_⟩) ?_ ?_
           rotate_left
           · intro w'
             go_simp
             with_reducible rfl
           rotate_left
           · simp only [Act.put, List.setIfInBounds_toArray, List.set_cons_zero, List.set_cons_succ, i64_w, i32_w]
             rfl
           refine pure_ (i := 3) (N := some 86) (v := undef) (a' := ?_) #[true, true, true, true, false, false, false, false, false, false, false, false, false] rfl rfl (any_of HT_.out (by kernel_rfl)) (fun _ _ _ h => h) (Or.inr ⟨by rfl, rfl⟩) ?_ ?_
           rotate_left
           · simp only [Act.put, List.setIfInBounds_toArray, List.set_cons_zero, List.set_cons_succ, i64_w, i32_w]
             rfl
           refine pure_ (i := 4) (N := some 87) (v := undef) (a' := ?_) #[true, true, true, true, true, false, false, false, false, false, false, false, false] rfl rfl (any_of HT_.out (by kernel_rfl)) (fun _ _ _ h => h) (Or.inr ⟨by rfl, rfl⟩) ?_ ?_
           rotate_left
           · simp only [Act.put, List.setIfInBounds_toArray, List.set_cons_zero, List.set_cons_succ, i64_w, i32_w]
             rfl
           refine pure_ (i := 5) (N := some 88) (v := undef) (a' := ?_) #[true, true, true, true, true, true, false, false, false, false, false, false, false] rfl rfl (any_of HT_.out (by kernel_rfl)) (fun _ _ _ h => h) (Or.inr ⟨by rfl, rfl⟩) ?_ ?_
           rotate_left
           · simp only [Act.put, List.setIfInBounds_toArray, List.set_cons_zero, List.set_cons_succ, i64_w, i32_w]
             rfl
           refine pure_ (i := 6) (N := some 89) (v := undef) (a' := ?_) #[true, true, true, true, true, true, true, false, false, false, false, false, false] rfl rfl (any_of HT_.out (by kernel_rfl)) (fun _ _ _ h => h) (Or.inr ⟨by rfl, rfl⟩) ?_ ?_
           rotate_left
           · simp only [Act.put, List.setIfInBounds_toArray, List.set_cons_zero, List.set_cons_succ, i64_w, i32_w]
             rfl
           refine pure_ (i := 7) (N := some 90) (v := undef) (a' := ?_) #[true, true, true, true, true, true, true, true, false, false, false, false, false] rfl rfl (any_of HT_.out (by kernel_rfl)) (fun _ _ _ h => h) (Or.inr ⟨by rfl, rfl⟩) ?_ ?_
           rotate_left
           · simp only [Act.put, List.setIfInBounds_toArray, List.set_cons_zero, List.set_cons_succ, i64_w, i32_w]
             rfl
           refine pure_ (i := 8) (N := some 91) (v := undef) (a' := ?_) #[true, true, true, true, true, true, true, true, true, false, false, false, false] rfl rfl (any_of HT_.out (by kernel_rfl)) (fun _ _ _ h => h) (Or.inr ⟨by rfl, rfl⟩) ?_ ?_
           rotate_left
           · simp only [Act.put, List.setIfInBounds_toArray, List.set_cons_zero, List.set_cons_succ, i64_w, i32_w]
             rfl
           refine pure_ (i := 9) (N := some 92) (v := undef) (a' := ?_) #[true, true, true, true, true, true, true, true, true, true, false, false, false] rfl rfl (any_of HT_.out (by kernel_rfl)) (fun _ _ _ h => h) (Or.inr ⟨by rfl, rfl⟩) ?_ ?_
           rotate_left
           · simp only [Act.put, List.setIfInBounds_toArray, List.set_cons_zero, List.set_cons_succ, i64_w, i32_w]
             rfl
           refine pure_ (i := 10) (N := some 93) (v := undef) (a' := ?_) #[true, true, true, true, true, true, true, true, true, true, true, false, false] rfl rfl (any_of HT_.out (by kernel_rfl)) (fun _ _ _ h => h) (Or.inr ⟨by rfl, rfl⟩) ?_ ?_
           rotate_left
           · simp only [Act.put, List.setIfInBounds_toArray, List.set_cons_zero, List.set_cons_succ, i64_w, i32_w]
             rfl
           refine pure_ (i := 11) (N := some 94) (v := undef) (a' := ?_) #[true, true, true, true, true, true, true, true, true, true, true, true, false] rfl rfl (any_of HT_.out (by kernel_rfl)) (fun _ _ _ h => h) (Or.inr ⟨by rfl, rfl⟩) ?_ ?_
           rotate_left
           · simp only [Act.put, List.setIfInBounds_toArray, List.set_cons_zero, List.set_cons_succ, i64_w, i32_w]
             rfl
           refine pure_ (i := 12) (N := some 95) (v := ?_) (a' := ?_) #[true, true, true, true, true, true, true, true, true, true, true, true, true] rfl rfl (any_of HT_.out (by kernel_rfl)) (fun _ _ _ h => h) (Or.inl ⟨by rfl, ?_⟩) ?_ ?_
           rotate_left
           · intro w'
             go_simp
             with_reducible rfl
           rotate_left
           · simp only [Act.put, List.setIfInBounds_toArray, List.set_cons_zero, List.set_cons_succ, i64_w, i32_w]
             rfl
           refine done_ (done_of HT_.out (by kernel_rfl)) ?_
           go_wp2
           go_roundg k2
           case measure => omega
           case rel => exact ⟨x + 1, x, (ls1.set x.toNat (wrap64 ((wrap64 ((rd (rd_L1 l1 own) x) - (rd L own))) - (rd B x)))), (fr1.set x.toNat last), by first | rfl | rw [hx1], by first | rfl | rw [hx1], ⟨⟨by have := HX0.out; omega, by have := HX.out; omega⟩, by have h_ := scanS_ok l1 L B gn last own l1.length (by have := HF.out; omega) HX0.out.1 HX0.out.2 HX.out.2; rw [es] at h_; exact h_⟩, ⟨by have h_ := HSF.out; rw [scanF, es] at h_; exact h_⟩, HS, HW⟩
         · have db : decide (b < 0) = false := decide_eq_false hb0
           have HB0 := Aside0.mk (show 0 ≤ b ∧ b < (l1.length : Int) from ⟨by omega, HX.out.2.2.2.1.2⟩)
           have pb : (0 ≤ b) = True := eq_true HB0.out.1
           have qb : (b < (l1.length : Int)) = True := eq_true HB0.out.2
           have NB := Aside0.mk (Int.not_lt.1 hb0)
           clear hb0
           have kx : w6.drew.cell? ⟨gl, x.toNat, none⟩ = some (.int .i64 (rd (ls1.set x.toNat (wrap64 ((wrap64 ((rd (rd_L1 l1 own) x) - (rd L own))) - (rd B x)))) x)) := (HS.out.rl.cell x HX0.out.1 HX0.out.2).1
           have kb : w6.drew.cell? ⟨gl, b.toNat, none⟩ = some (.int .i64 (rd (ls1.set x.toNat (wrap64 ((wrap64 ((rd (rd_L1 l1 own) x) - (rd L own))) - (rd B x)))) b)) := (HS.out.rl.cell b HB0.out.1 HB0.out.2).1
           by_cases hlt : rd (ls1.set x.toNat (wrap64 ((wrap64 ((rd (rd_L1 l1 own) x) - (rd L own))) - (rd B x)))) x < rd (ls1.set x.toNat (wrap64 ((wrap64 ((rd (rd_L1 l1 own) x) - (rd L own))) - (rd B x)))) b
           · have dlt : decide (rd (ls1.set x.toNat (wrap64 ((wrap64 ((rd (rd_L1 l1 own) x) - (rd L own))) - (rd B x)))) x < rd (ls1.set x.toNat (wrap64 ((wrap64 ((rd (rd_L1 l1 own) x) - (rd L own))) - (rd B x)))) b) = true := decide_eq_true hlt
             have es : scanS l1 L B gn last own x (ls1, fr1, b) = ((ls1.set x.toNat (wrap64 ((wrap64 ((rd (rd_L1 l1 own) x) - (rd L own))) - (rd B x)))), (fr1.set x.toNat last), x) := by unfold scanS; rw [if_neg HG.out, if_pos (show seenV l1 L B own x < rd ls1 x from HCC.out)]; simp only [pickB]; rw [show seenV l1 L B own x = (wrap64 ((wrap64 ((rd (rd_L1 l1 own) x) - (rd L own))) - (rd B x))) from rfl]; rw [if_neg (Int.not_lt.2 NB.out), if_pos hlt]
             clear hlt
             refine start_ (n := 13) (S := fun w' => w'.cell? ⟨gl, x.toNat, none⟩ = some (.int .i64 (rd (ls1.set x.toNat (wrap64 ((wrap64 ((rd (rd_L1 l1 own) x) - (rd L own))) - (rd B x)))) x)) ∧ w'.cell? ⟨gl, b.toNat, none⟩ = some (.int .i64 (rd (ls1.set x.toNat (wrap64 ((wrap64 ((rd (rd_L1 l1 own) x) - (rd L own))) - (rd B x)))) b))) (ds := []) #[false, false, false, false, false, false, false, false, false, false, false, false, false] (by kernel_rfl) rfl rfl ⟨kx, kb⟩ (fun hHeld => ?_); refine with_tabW impl_Prices_place.tab13 impl_Prices_place.bits13 (fun HT_ HW_ => ?_)
             generalize w6.drew = w8 at HS HW kx kb hHeld ⊢
             refine pure_ (i := 0) (N := some 83) (v := ?_) (a' := ?_) #[true, false, false, false, false, false, false, false, false, false, false, false, false] rfl rfl (any_of HT_.out (by kernel_rfl)) (fun _ _ _ h => h) (Or.inl ⟨by rfl, ?_⟩) ?_ ?_
             rotate_left
             · intro w'
               go_simp
               with_reducible rfl
             rotate_left
             · simp only [Act.put, List.setIfInBounds_toArray, List.set_cons_zero, List.set_cons_succ, i64_w, i32_w]
               rfl
             refine pure_ (i := 1) (N := some 84) (v := ?_) (a' := ?_) #[true, true, false, false, false, false, false, false, false, false, false, false, false] rfl rfl (any_of HT_.out (by kernel_rfl)) (fun _ _ _ h => h) (Or.inl ⟨by rfl, ?_⟩) ?_ ?_
             rotate_left
             · intro w'
               go_simp
               with_reducible rfl
             rotate_left
             · simp only [Act.put, List.setIfInBounds_toArray, List.set_cons_zero, List.set_cons_succ, i64_w, i32_w]
               rfl
             refine pure_ (i := 2) (N := some 85) (v := ?_) (a' := ?_) #[true, true, true, false, false, false, false, false, false, false, false, false, false] rfl rfl (any_of HT_.out (by kernel_rfl)) (fun _ _ _ h => h) (Or.inl ⟨by rfl, ?_⟩) ?_ ?_
             rotate_left
             · intro w'
               go_simp
               with_reducible rfl
             rotate_left
             · simp only [Act.put, List.setIfInBounds_toArray, List.set_cons_zero, List.set_cons_succ, i64_w, i32_w]
               rfl
             refine pure_ (i := 3) (N := some 86) (v := ?_) (a' := ?_) #[true, true, true, true, false, false, false, false, false, false, false, false, false] rfl rfl (any_of HT_.out (by kernel_rfl)) (fun _ _ _ h => h) (Or.inl ⟨by rfl, ?_⟩) ?_ ?_
             rotate_left
             · intro w'
               go_simp
               with_reducible rfl
             rotate_left
             · simp only [Act.put, List.setIfInBounds_toArray, List.set_cons_zero, List.set_cons_succ, i64_w, i32_w]
               rfl
             refine pure_ (i := 4) (N := some 87) (v := ?_) (a' := ?_) #[true, true, true, true, true, false, false, false, false, false, false, false, false] rfl rfl (any_of HT_.out (by kernel_rfl)) (fun _ _ _ h => h) (Or.inl ⟨by rfl, ?_⟩) ?_ ?_
             rotate_left
             · intro w'
               go_simp
               with_reducible rfl
             rotate_left
             · simp only [Act.put, List.setIfInBounds_toArray, List.set_cons_zero, List.set_cons_succ, i64_w, i32_w]
               rfl
             refine pure_ (i := 5) (N := some 88) (v := ?_) (a' := ?_) #[true, true, true, true, true, true, false, false, false, false, false, false, false] rfl rfl (any_of HT_.out (by kernel_rfl)) (fun _ _ _ h => h) (Or.inl ⟨by rfl, ?_⟩) ?_ ?_
             rotate_left
             · intro w'
               go_simp
               with_reducible rfl
             rotate_left
             · simp only [Act.put, List.setIfInBounds_toArray, List.set_cons_zero, List.set_cons_succ, i64_w, i32_w]
               rfl
             refine pure_ (i := 7) (N := some 90) (v := ?_) (a' := ?_) #[true, true, true, true, true, true, false, true, false, false, false, false, false] rfl rfl (any_of HT_.out (by kernel_rfl)) (fun _ _ _ h => h) (Or.inl ⟨by rfl, ?_⟩) ?_ ?_
             rotate_left
             · intro w'
               go_simp
               with_reducible rfl
             rotate_left
             · simp only [Act.put, List.setIfInBounds_toArray, List.set_cons_zero, List.set_cons_succ, i64_w, i32_w]
               rfl
             refine pure_ (i := 8) (N := some 91) (v := ?_) (a' := ?_) #[true, true, true, true, true, true, false, true, true, false, false, false, false] rfl rfl (any_of HT_.out (by kernel_rfl)) (fun _ _ _ h => h) (Or.inl ⟨by rfl, ?_⟩) ?_ ?_
             rotate_left
             · intro w'
               go_simp
               with_reducible rfl
             rotate_left
             · simp only [Act.put, List.setIfInBounds_toArray, List.set_cons_zero, List.set_cons_succ, i64_w, i32_w]
               rfl
             refine pure_ (i := 9) (N := some 92) (v := ?_) (a' := ?_) #[true, true, true, true, true, true, false, true, true, true, false, false, false] rfl rfl (any_of HT_.out (by kernel_rfl)) (fun _ _ _ h => h) (Or.inl ⟨by rfl, ?_⟩) ?_ ?_
             rotate_left
             · intro w'
               go_simp
               with_reducible rfl
             rotate_left
             · simp only [Act.put, List.setIfInBounds_toArray, List.set_cons_zero, List.set_cons_succ, i64_w, i32_w]
               rfl
             refine take_ (i := 6) (N := some 89) (v := ?_) (a' := ?_) #[true, true, true, true, true, true, true, true, true, true, false, false, false] rfl rfl (take_ofW HT_.out HW_.out (by kernel_rfl)) (fun _ _ _ h => h) (Or.inl ⟨by rfl, ?_⟩) hHeld ?_ ?_
             rotate_left
             · rintro w' ⟨s0, s1⟩
               go_simp
               with_reducible rfl
             rotate_left
             · simp only [Act.put, List.setIfInBounds_toArray, List.set_cons_zero, List.set_cons_succ, i64_w, i32_w]
               rfl
             refine take_ (i := 10) (N := some 93) (v := ?_) (a' := ?_) #[true, true, true, true, true, true, true, true, true, true, true, false, false] rfl rfl (take_ofW HT_.out HW_.out (by kernel_rfl)) (fun _ _ _ h => h) (Or.inl ⟨by rfl, ?_⟩) hHeld ?_ ?_
             rotate_left
             · rintro w' ⟨s0, s1⟩
               go_simp
               with_reducible rfl
             rotate_left
             · simp only [Act.put, List.setIfInBounds_toArray, List.set_cons_zero, List.set_cons_succ, i64_w, i32_w]
               rfl
             refine pure_ (i := 11) (N := some 94) (v := ?_) (a' := ?_) #[true, true, true, true, true, true, true, true, true, true, true, true, false] rfl rfl (any_of HT_.out (by kernel_rfl)) (fun _ _ _ h => h) (Or.inl ⟨by rfl, ?_⟩) ?_ ?_
             rotate_left
             · intro w'
               go_simp
               with_reducible rfl
             rotate_left
             · simp only [Act.put, List.setIfInBounds_toArray, List.set_cons_zero, List.set_cons_succ, i64_w, i32_w]
               rfl
             refine pure_ (i := 12) (N := some 95) (v := ?_) (a' := ?_) #[true, true, true, true, true, true, true, true, true, true, true, true, true] rfl rfl (any_of HT_.out (by kernel_rfl)) (fun _ _ _ h => h) (Or.inl ⟨by rfl, ?_⟩) ?_ ?_
             rotate_left
             · intro w'
               go_simp
               with_reducible rfl
             rotate_left
             · simp only [Act.put, List.setIfInBounds_toArray, List.set_cons_zero, List.set_cons_succ, i64_w, i32_w]
               rfl
             refine done_ (done_of HT_.out (by kernel_rfl)) ?_
             go_wp2
             go_roundg k2
             case measure => omega
             case rel => exact ⟨x + 1, x, (ls1.set x.toNat (wrap64 ((wrap64 ((rd (rd_L1 l1 own) x) - (rd L own))) - (rd B x)))), (fr1.set x.toNat last), by first | rfl | rw [hx1], by first | rfl | rw [hx1], ⟨⟨by have := HX0.out; omega, by have := HX.out; omega⟩, by have h_ := scanS_ok l1 L B gn last own l1.length (by have := HF.out; omega) HX0.out.1 HX0.out.2 HX.out.2; rw [es] at h_; exact h_⟩, ⟨by have h_ := HSF.out; rw [scanF, es] at h_; exact h_⟩, HS, HW⟩
           · have dlt : decide (rd (ls1.set x.toNat (wrap64 ((wrap64 ((rd (rd_L1 l1 own) x) - (rd L own))) - (rd B x)))) x < rd (ls1.set x.toNat (wrap64 ((wrap64 ((rd (rd_L1 l1 own) x) - (rd L own))) - (rd B x)))) b) = false := decide_eq_false hlt
             have es : scanS l1 L B gn last own x (ls1, fr1, b) = ((ls1.set x.toNat (wrap64 ((wrap64 ((rd (rd_L1 l1 own) x) - (rd L own))) - (rd B x)))), (fr1.set x.toNat last), b) := by unfold scanS; rw [if_neg HG.out, if_pos (show seenV l1 L B own x < rd ls1 x from HCC.out)]; simp only [pickB]; rw [show seenV l1 L B own x = (wrap64 ((wrap64 ((rd (rd_L1 l1 own) x) - (rd L own))) - (rd B x))) from rfl]; rw [if_neg (Int.not_lt.2 NB.out), if_neg hlt]
             clear hlt
             refine start_ (n := 13) (S := fun w' => w'.cell? ⟨gl, x.toNat, none⟩ = some (.int .i64 (rd (ls1.set x.toNat (wrap64 ((wrap64 ((rd (rd_L1 l1 own) x) - (rd L own))) - (rd B x)))) x)) ∧ w'.cell? ⟨gl, b.toNat, none⟩ = some (.int .i64 (rd (ls1.set x.toNat (wrap64 ((wrap64 ((rd (rd_L1 l1 own) x) - (rd L own))) - (rd B x)))) b))) (ds := []) #[false, false, false, false, false, false, false, false, false, false, false, false, false] (by kernel_rfl) rfl rfl ⟨kx, kb⟩ (fun hHeld => ?_); refine with_tabW impl_Prices_place.tab13 impl_Prices_place.bits13 (fun HT_ HW_ => ?_)
             generalize w6.drew = w8 at HS HW kx kb hHeld ⊢
             refine pure_ (i := 0) (N := some 83) (v := ?_) (a' := ?_) #[true, false, false, false, false, false, false, false, false, false, false, false, false] rfl rfl (any_of HT_.out (by kernel_rfl)) (fun _ _ _ h => h) (Or.inl ⟨by rfl, ?_⟩) ?_ ?_
             rotate_left
             · intro w'
               go_simp
               with_reducible rfl
             rotate_left
             · simp only [Act.put, List.setIfInBounds_toArray, List.set_cons_zero, List.set_cons_succ, i64_w, i32_w]
               rfl
             refine pure_ (i := 1) (N := some 84) (v := ?_) (a' := ?_) #[true, true, false, false, false, false, false, false, false, false, false, false, false] rfl rfl (any_of HT_.out (by kernel_rfl)) (fun _ _ _ h => h) (Or.inl ⟨by rfl, ?_⟩) ?_ ?_
             rotate_left
             · intro w'
               go_simp
               with_reducible rfl
             rotate_left
             · simp only [Act.put, List.setIfInBounds_toArray, List.set_cons_zero, List.set_cons_succ, i64_w, i32_w]
               rfl
             refine pure_ (i := 2) (N := some 85) (v := ?_) (a' := ?_) #[true, true, true, false, false, false, false, false, false, false, false, false, false] rfl rfl (any_of HT_.out (by kernel_rfl)) (fun _ _ _ h => h) (Or.inl ⟨by rfl, ?_⟩) ?_ ?_
             rotate_left
             · intro w'
               go_simp
               with_reducible rfl
             rotate_left
             · simp only [Act.put, List.setIfInBounds_toArray, List.set_cons_zero, List.set_cons_succ, i64_w, i32_w]
               rfl
             refine pure_ (i := 3) (N := some 86) (v := ?_) (a' := ?_) #[true, true, true, true, false, false, false, false, false, false, false, false, false] rfl rfl (any_of HT_.out (by kernel_rfl)) (fun _ _ _ h => h) (Or.inl ⟨by rfl, ?_⟩) ?_ ?_
             rotate_left
             · intro w'
               go_simp
               with_reducible rfl
             rotate_left
             · simp only [Act.put, List.setIfInBounds_toArray, List.set_cons_zero, List.set_cons_succ, i64_w, i32_w]
               rfl
             refine pure_ (i := 4) (N := some 87) (v := ?_) (a' := ?_) #[true, true, true, true, true, false, false, false, false, false, false, false, false] rfl rfl (any_of HT_.out (by kernel_rfl)) (fun _ _ _ h => h) (Or.inl ⟨by rfl, ?_⟩) ?_ ?_
             rotate_left
             · intro w'
               go_simp
               with_reducible rfl
             rotate_left
             · simp only [Act.put, List.setIfInBounds_toArray, List.set_cons_zero, List.set_cons_succ, i64_w, i32_w]
               rfl
             refine pure_ (i := 5) (N := some 88) (v := ?_) (a' := ?_) #[true, true, true, true, true, true, false, false, false, false, false, false, false] rfl rfl (any_of HT_.out (by kernel_rfl)) (fun _ _ _ h => h) (Or.inl ⟨by rfl, ?_⟩) ?_ ?_
             rotate_left
             · intro w'
               go_simp
               with_reducible rfl
             rotate_left
             · simp only [Act.put, List.setIfInBounds_toArray, List.set_cons_zero, List.set_cons_succ, i64_w, i32_w]
               rfl
             refine pure_ (i := 7) (N := some 90) (v := ?_) (a' := ?_) #[true, true, true, true, true, true, false, true, false, false, false, false, false] rfl rfl (any_of HT_.out (by kernel_rfl)) (fun _ _ _ h => h) (Or.inl ⟨by rfl, ?_⟩) ?_ ?_
             rotate_left
             · intro w'
               go_simp
               with_reducible rfl
             rotate_left
             · simp only [Act.put, List.setIfInBounds_toArray, List.set_cons_zero, List.set_cons_succ, i64_w, i32_w]
               rfl
             refine pure_ (i := 8) (N := some 91) (v := ?_) (a' := ?_) #[true, true, true, true, true, true, false, true, true, false, false, false, false] rfl rfl (any_of HT_.out (by kernel_rfl)) (fun _ _ _ h => h) (Or.inl ⟨by rfl, ?_⟩) ?_ ?_
             rotate_left
             · intro w'
               go_simp
               with_reducible rfl
             rotate_left
             · simp only [Act.put, List.setIfInBounds_toArray, List.set_cons_zero, List.set_cons_succ, i64_w, i32_w]
               rfl
             refine pure_ (i := 9) (N := some 92) (v := ?_) (a' := ?_) #[true, true, true, true, true, true, false, true, true, true, false, false, false] rfl rfl (any_of HT_.out (by kernel_rfl)) (fun _ _ _ h => h) (Or.inl ⟨by rfl, ?_⟩) ?_ ?_
             rotate_left
             · intro w'
               go_simp
               with_reducible rfl
             rotate_left
             · simp only [Act.put, List.setIfInBounds_toArray, List.set_cons_zero, List.set_cons_succ, i64_w, i32_w]
               rfl
             refine take_ (i := 6) (N := some 89) (v := ?_) (a' := ?_) #[true, true, true, true, true, true, true, true, true, true, false, false, false] rfl rfl (take_ofW HT_.out HW_.out (by kernel_rfl)) (fun _ _ _ h => h) (Or.inl ⟨by rfl, ?_⟩) hHeld ?_ ?_
             rotate_left
             · rintro w' ⟨s0, s1⟩
               go_simp
               with_reducible rfl
             rotate_left
             · simp only [Act.put, List.setIfInBounds_toArray, List.set_cons_zero, List.set_cons_succ, i64_w, i32_w]
               rfl
             refine take_ (i := 10) (N := some 93) (v := ?_) (a' := ?_) #[true, true, true, true, true, true, true, true, true, true, true, false, false] rfl rfl (take_ofW HT_.out HW_.out (by kernel_rfl)) (fun _ _ _ h => h) (Or.inl ⟨by rfl, ?_⟩) hHeld ?_ ?_
             rotate_left
             · rintro w' ⟨s0, s1⟩
               go_simp
               with_reducible rfl
             rotate_left
             · simp only [Act.put, List.setIfInBounds_toArray, List.set_cons_zero, List.set_cons_succ, i64_w, i32_w]
               rfl
             refine pure_ (i := 11) (N := some 94) (v := ?_) (a' := ?_) #[true, true, true, true, true, true, true, true, true, true, true, true, false] rfl rfl (any_of HT_.out (by kernel_rfl)) (fun _ _ _ h => h) (Or.inl ⟨by rfl, ?_⟩) ?_ ?_
             rotate_left
             · intro w'
               go_simp
               with_reducible rfl
             rotate_left
             · simp only [Act.put, List.setIfInBounds_toArray, List.set_cons_zero, List.set_cons_succ, i64_w, i32_w]
               rfl
             refine pure_ (i := 12) (N := some 95) (v := ?_) (a' := ?_) #[true, true, true, true, true, true, true, true, true, true, true, true, true] rfl rfl (any_of HT_.out (by kernel_rfl)) (fun _ _ _ h => h) (Or.inl ⟨by rfl, ?_⟩) ?_ ?_
             rotate_left
             · intro w'
               go_simp
               with_reducible rfl
             rotate_left
             · simp only [Act.put, List.setIfInBounds_toArray, List.set_cons_zero, List.set_cons_succ, i64_w, i32_w]
               rfl
             refine done_ (done_of HT_.out (by kernel_rfl)) ?_
             go_wp2
             go_roundg k2
             case measure => omega
             case rel => exact ⟨x + 1, b, (ls1.set x.toNat (wrap64 ((wrap64 ((rd (rd_L1 l1 own) x) - (rd L own))) - (rd B x)))), (fr1.set x.toNat last), by first | rfl | rw [hx1], by first | rfl | rw [hx1], ⟨⟨by have := HX0.out; omega, by have := HX.out; omega⟩, by have h_ := scanS_ok l1 L B gn last own l1.length (by have := HF.out; omega) HX0.out.1 HX0.out.2 HX.out.2; rw [es] at h_; exact h_⟩, ⟨by have h_ := HSF.out; rw [scanF, es] at h_; exact h_⟩, HS, HW⟩
       · have dc : decide ((wrap64 ((wrap64 ((rd (rd_L1 l1 own) x) - (rd L own))) - (rd B x))) < rd ls1 x) = false := decide_eq_false hc
         have HCC := Aside0.mk (Int.not_lt.1 hc)
         clear hc
         go_wp2
         clear kl fl
         replace HS := Aside0.mk HS.out.drew
         replace HW := Aside0.mk HW.out.drew
         by_cases hb0 : b < 0
         · have db : decide (b < 0) = true := decide_eq_true hb0
           have es : scanS l1 L B gn last own x (ls1, fr1, b) = (ls1, fr1, x) := by unfold scanS; rw [if_neg HG.out, if_neg (show ¬ seenV l1 L B own x < rd ls1 x from Int.not_lt.2 HCC.out)]; simp only [pickB]; rw [if_pos hb0]
           clear hb0
           refine start_ (n := 13) (S := fun w' => True) (ds := []) #[false, false, false, false, false, false, false, false, false, false, false, false, false] (by kernel_rfl) rfl rfl trivial (fun hHeld => ?_); refine with_tabW impl_Prices_place.tab13 impl_Prices_place.bits13 (fun HT_ HW_ => ?_)
           generalize w4.drew = w8 at HS HW hHeld ⊢
           refine pure_ (i := 0) (N := some 83) (v := ?_) (a' := ?_) #[true, false, false, false, false, false, false, false, false, false, false, false, false] rfl rfl (any_of HT_.out (by kernel_rfl)) (fun _ _ _ h => h) (Or.inl ⟨by rfl, ?_⟩) ?_ ?_
           rotate_left
           · intro w'
             go_simp
             with_reducible rfl
           rotate_left
           · simp only [Act.put, List.setIfInBounds_toArray, List.set_cons_zero, List.set_cons_succ, i64_w, i32_w]
             rfl
           refine pure_ (i := 1) (N := some 84) (v := ?_) (a' := ?_) #[true, true, false, false, false, false, false, false, false, false, false, false, false] rfl rfl (any_of HT_.out (by kernel_rfl)) (fun _ _ _ h => h) (Or.inl ⟨by rfl, ?_⟩) ?_ ?_
           rotate_left
           · intro w'
             go_simp
             with_reducible rfl
           rotate_left
           · simp only [Act.put, List.setIfInBounds_toArray, List.set_cons_zero, List.set_cons_succ, i64_w, i32_w]
             rfl
           refine pure_ (i := 2) (N := some 85) (v := ?_) (a' := ?_) #[true, true, true, false, false, false, false, false, false, false, false, false, false] rfl rfl (any_of HT_.out (by kernel_rfl)) (fun _ _ _ h => h) (Or.inl ⟨by rfl, ?_⟩) ?_ ?_
           rotate_left
           · intro w'
             go_simp
             with_reducible rfl
           rotate_left
           · simp only [Act.put, List.setIfInBounds_toArray, List.set_cons_zero, List.set_cons_succ, i64_w, i32_w]
             rfl
           refine pure_ (i := 3) (N := some 86) (v := undef) (a' := ?_) #[true, true, true, true, false, false, false, false, false, false, false, false, false] rfl rfl (any_of HT_.out (by kernel_rfl)) (fun _ _ _ h => h) (Or.inr ⟨by rfl, rfl⟩) ?_ ?_
           rotate_left
           · simp only [Act.put, List.setIfInBounds_toArray, List.set_cons_zero, List.set_cons_succ, i64_w, i32_w]
             rfl
           refine pure_ (i := 4) (N := some 87) (v := undef) (a' := ?_) #[true, true, true, true, true, false, false, false, false, false, false, false, false] rfl rfl (any_of HT_.out (by kernel_rfl)) (fun _ _ _ h => h) (Or.inr ⟨by rfl, rfl⟩) ?_ ?_
           rotate_left
           · simp only [Act.put, List.setIfInBounds_toArray, List.set_cons_zero, List.set_cons_succ, i64_w, i32_w]
             rfl
           refine pure_ (i := 5) (N := some 88) (v := undef) (a' := ?_) #[true, true, true, true, true, true, false, false, false, false, false, false, false] rfl rfl (any_of HT_.out (by kernel_rfl)) (fun _ _ _ h => h) (Or.inr ⟨by rfl, rfl⟩) ?_ ?_
           rotate_left
           · simp only [Act.put, List.setIfInBounds_toArray, List.set_cons_zero, List.set_cons_succ, i64_w, i32_w]
             rfl
           refine pure_ (i := 6) (N := some 89) (v := undef) (a' := ?_) #[true, true, true, true, true, true, true, false, false, false, false, false, false] rfl rfl (any_of HT_.out (by kernel_rfl)) (fun _ _ _ h => h) (Or.inr ⟨by rfl, rfl⟩) ?_ ?_
           rotate_left
           · simp only [Act.put, List.setIfInBounds_toArray, List.set_cons_zero, List.set_cons_succ, i64_w, i32_w]
             rfl
           refine pure_ (i := 7) (N := some 90) (v := undef) (a' := ?_) #[true, true, true, true, true, true, true, true, false, false, false, false, false] rfl rfl (any_of HT_.out (by kernel_rfl)) (fun _ _ _ h => h) (Or.inr ⟨by rfl, rfl⟩) ?_ ?_
           rotate_left
           · simp only [Act.put, List.setIfInBounds_toArray, List.set_cons_zero, List.set_cons_succ, i64_w, i32_w]
             rfl
           refine pure_ (i := 8) (N := some 91) (v := undef) (a' := ?_) #[true, true, true, true, true, true, true, true, true, false, false, false, false] rfl rfl (any_of HT_.out (by kernel_rfl)) (fun _ _ _ h => h) (Or.inr ⟨by rfl, rfl⟩) ?_ ?_
           rotate_left
           · simp only [Act.put, List.setIfInBounds_toArray, List.set_cons_zero, List.set_cons_succ, i64_w, i32_w]
             rfl
           refine pure_ (i := 9) (N := some 92) (v := undef) (a' := ?_) #[true, true, true, true, true, true, true, true, true, true, false, false, false] rfl rfl (any_of HT_.out (by kernel_rfl)) (fun _ _ _ h => h) (Or.inr ⟨by rfl, rfl⟩) ?_ ?_
           rotate_left
           · simp only [Act.put, List.setIfInBounds_toArray, List.set_cons_zero, List.set_cons_succ, i64_w, i32_w]
             rfl
           refine pure_ (i := 10) (N := some 93) (v := undef) (a' := ?_) #[true, true, true, true, true, true, true, true, true, true, true, false, false] rfl rfl (any_of HT_.out (by kernel_rfl)) (fun _ _ _ h => h) (Or.inr ⟨by rfl, rfl⟩) ?_ ?_
           rotate_left
           · simp only [Act.put, List.setIfInBounds_toArray, List.set_cons_zero, List.set_cons_succ, i64_w, i32_w]
             rfl
           refine pure_ (i := 11) (N := some 94) (v := undef) (a' := ?_) #[true, true, true, true, true, true, true, true, true, true, true, true, false] rfl rfl (any_of HT_.out (by kernel_rfl)) (fun _ _ _ h => h) (Or.inr ⟨by rfl, rfl⟩) ?_ ?_
           rotate_left
           · simp only [Act.put, List.setIfInBounds_toArray, List.set_cons_zero, List.set_cons_succ, i64_w, i32_w]
             rfl
           refine pure_ (i := 12) (N := some 95) (v := ?_) (a' := ?_) #[true, true, true, true, true, true, true, true, true, true, true, true, true] rfl rfl (any_of HT_.out (by kernel_rfl)) (fun _ _ _ h => h) (Or.inl ⟨by rfl, ?_⟩) ?_ ?_
           rotate_left
           · intro w'
             go_simp
             with_reducible rfl
           rotate_left
           · simp only [Act.put, List.setIfInBounds_toArray, List.set_cons_zero, List.set_cons_succ, i64_w, i32_w]
             rfl
           refine done_ (done_of HT_.out (by kernel_rfl)) ?_
           go_wp2
           go_roundg k2
           case measure => omega
           case rel => exact ⟨x + 1, x, ls1, fr1, by first | rfl | rw [hx1], by first | rfl | rw [hx1], ⟨⟨by have := HX0.out; omega, by have := HX.out; omega⟩, by have h_ := scanS_ok l1 L B gn last own l1.length (by have := HF.out; omega) HX0.out.1 HX0.out.2 HX.out.2; rw [es] at h_; exact h_⟩, ⟨by have h_ := HSF.out; rw [scanF, es] at h_; exact h_⟩, HS, HW⟩
         · have db : decide (b < 0) = false := decide_eq_false hb0
           have HB0 := Aside0.mk (show 0 ≤ b ∧ b < (l1.length : Int) from ⟨by omega, HX.out.2.2.2.1.2⟩)
           have pb : (0 ≤ b) = True := eq_true HB0.out.1
           have qb : (b < (l1.length : Int)) = True := eq_true HB0.out.2
           have NB := Aside0.mk (Int.not_lt.1 hb0)
           clear hb0
           have kx : w4.drew.cell? ⟨gl, x.toNat, none⟩ = some (.int .i64 (rd ls1 x)) := (HS.out.rl.cell x HX0.out.1 HX0.out.2).1
           have kb : w4.drew.cell? ⟨gl, b.toNat, none⟩ = some (.int .i64 (rd ls1 b)) := (HS.out.rl.cell b HB0.out.1 HB0.out.2).1
           by_cases hlt : rd ls1 x < rd ls1 b
           · have dlt : decide (rd ls1 x < rd ls1 b) = true := decide_eq_true hlt
             have es : scanS l1 L B gn last own x (ls1, fr1, b) = (ls1, fr1, x) := by unfold scanS; rw [if_neg HG.out, if_neg (show ¬ seenV l1 L B own x < rd ls1 x from Int.not_lt.2 HCC.out)]; simp only [pickB]; rw [if_neg (Int.not_lt.2 NB.out), if_pos hlt]
             clear hlt
             refine start_ (n := 13) (S := fun w' => w'.cell? ⟨gl, x.toNat, none⟩ = some (.int .i64 (rd ls1 x)) ∧ w'.cell? ⟨gl, b.toNat, none⟩ = some (.int .i64 (rd ls1 b))) (ds := []) #[false, false, false, false, false, false, false, false, false, false, false, false, false] (by kernel_rfl) rfl rfl ⟨kx, kb⟩ (fun hHeld => ?_); refine with_tabW impl_Prices_place.tab13 impl_Prices_place.bits13 (fun HT_ HW_ => ?_)
             generalize w4.drew = w8 at HS HW kx kb hHeld ⊢
             refine pure_ (i := 0) (N := some 83) (v := ?_) (a' := ?_) #[true, false, false, false, false, false, false, false, false, false, false, false, false] rfl rfl (any_of HT_.out (by kernel_rfl)) (fun _ _ _ h => h) (Or.inl ⟨by rfl, ?_⟩) ?_ ?_
             rotate_left
             · intro w'
               go_simp
               with_reducible rfl
             rotate_left
             · simp only [Act.put, List.setIfInBounds_toArray, List.set_cons_zero, List.set_cons_succ, i64_w, i32_w]
               rfl
             refine pure_ (i := 1) (N := some 84) (v := ?_) (a' := ?_) #[true, true, false, false, false, false, false, false, false, false, false, false, false] rfl rfl (any_of HT_.out (by kernel_rfl)) (fun _ _ _ h => h) (Or.inl ⟨by rfl, ?_⟩) ?_ ?_
             rotate_left
             · intro w'
               go_simp
               with_reducible rfl
             rotate_left
             · simp only [Act.put, List.setIfInBounds_toArray, List.set_cons_zero, List.set_cons_succ, i64_w, i32_w]
               rfl
             refine pure_ (i := 2) (N := some 85) (v := ?_) (a' := ?_) #[true, true, true, false, false, false, false, false, false, false, false, false, false] rfl rfl (any_of HT_.out (by kernel_rfl)) (fun _ _ _ h => h) (Or.inl ⟨by rfl, ?_⟩) ?_ ?_
             rotate_left
             · intro w'
               go_simp
               with_reducible rfl
             rotate_left
             · simp only [Act.put, List.setIfInBounds_toArray, List.set_cons_zero, List.set_cons_succ, i64_w, i32_w]
               rfl
             refine pure_ (i := 3) (N := some 86) (v := ?_) (a' := ?_) #[true, true, true, true, false, false, false, false, false, false, false, false, false] rfl rfl (any_of HT_.out (by kernel_rfl)) (fun _ _ _ h => h) (Or.inl ⟨by rfl, ?_⟩) ?_ ?_
             rotate_left
             · intro w'
               go_simp
               with_reducible rfl
             rotate_left
             · simp only [Act.put, List.setIfInBounds_toArray, List.set_cons_zero, List.set_cons_succ, i64_w, i32_w]
               rfl
             refine pure_ (i := 4) (N := some 87) (v := ?_) (a' := ?_) #[true, true, true, true, true, false, false, false, false, false, false, false, false] rfl rfl (any_of HT_.out (by kernel_rfl)) (fun _ _ _ h => h) (Or.inl ⟨by rfl, ?_⟩) ?_ ?_
             rotate_left
             · intro w'
               go_simp
               with_reducible rfl
             rotate_left
             · simp only [Act.put, List.setIfInBounds_toArray, List.set_cons_zero, List.set_cons_succ, i64_w, i32_w]
               rfl
             refine pure_ (i := 5) (N := some 88) (v := ?_) (a' := ?_) #[true, true, true, true, true, true, false, false, false, false, false, false, false] rfl rfl (any_of HT_.out (by kernel_rfl)) (fun _ _ _ h => h) (Or.inl ⟨by rfl, ?_⟩) ?_ ?_
             rotate_left
             · intro w'
               go_simp
               with_reducible rfl
             rotate_left
             · simp only [Act.put, List.setIfInBounds_toArray, List.set_cons_zero, List.set_cons_succ, i64_w, i32_w]
               rfl
             refine pure_ (i := 7) (N := some 90) (v := ?_) (a' := ?_) #[true, true, true, true, true, true, false, true, false, false, false, false, false] rfl rfl (any_of HT_.out (by kernel_rfl)) (fun _ _ _ h => h) (Or.inl ⟨by rfl, ?_⟩) ?_ ?_
             rotate_left
             · intro w'
               go_simp
               with_reducible rfl
             rotate_left
             · simp only [Act.put, List.setIfInBounds_toArray, List.set_cons_zero, List.set_cons_succ, i64_w, i32_w]
               rfl
             refine pure_ (i := 8) (N := some 91) (v := ?_) (a' := ?_) #[true, true, true, true, true, true, false, true, true, false, false, false, false] rfl rfl (any_of HT_.out (by kernel_rfl)) (fun _ _ _ h => h) (Or.inl ⟨by rfl, ?_⟩) ?_ ?_
             rotate_left
             · intro w'
               go_simp
               with_reducible rfl
             rotate_left
             · simp only [Act.put, List.setIfInBounds_toArray, List.set_cons_zero, List.set_cons_succ, i64_w, i32_w]
               rfl
             refine pure_ (i := 9) (N := some 92) (v := ?_) (a' := ?_) #[true, true, true, true, true, true, false, true, true, true, false, false, false] rfl rfl (any_of HT_.out (by kernel_rfl)) (fun _ _ _ h => h) (Or.inl ⟨by rfl, ?_⟩) ?_ ?_
             rotate_left
             · intro w'
               go_simp
               with_reducible rfl
             rotate_left
             · simp only [Act.put, List.setIfInBounds_toArray, List.set_cons_zero, List.set_cons_succ, i64_w, i32_w]
               rfl
             refine take_ (i := 6) (N := some 89) (v := ?_) (a' := ?_) #[true, true, true, true, true, true, true, true, true, true, false, false, false] rfl rfl (take_ofW HT_.out HW_.out (by kernel_rfl)) (fun _ _ _ h => h) (Or.inl ⟨by rfl, ?_⟩) hHeld ?_ ?_
             rotate_left
             · rintro w' ⟨s0, s1⟩
               go_simp
               with_reducible rfl
             rotate_left
             · simp only [Act.put, List.setIfInBounds_toArray, List.set_cons_zero, List.set_cons_succ, i64_w, i32_w]
               rfl
             refine take_ (i := 10) (N := some 93) (v := ?_) (a' := ?_) #[true, true, true, true, true, true, true, true, true, true, true, false, false] rfl rfl (take_ofW HT_.out HW_.out (by kernel_rfl)) (fun _ _ _ h => h) (Or.inl ⟨by rfl, ?_⟩) hHeld ?_ ?_
             rotate_left
             · rintro w' ⟨s0, s1⟩
               go_simp
               with_reducible rfl
             rotate_left
             · simp only [Act.put, List.setIfInBounds_toArray, List.set_cons_zero, List.set_cons_succ, i64_w, i32_w]
               rfl
             refine pure_ (i := 11) (N := some 94) (v := ?_) (a' := ?_) #[true, true, true, true, true, true, true, true, true, true, true, true, false] rfl rfl (any_of HT_.out (by kernel_rfl)) (fun _ _ _ h => h) (Or.inl ⟨by rfl, ?_⟩) ?_ ?_
             rotate_left
             · intro w'
               go_simp
               with_reducible rfl
             rotate_left
             · simp only [Act.put, List.setIfInBounds_toArray, List.set_cons_zero, List.set_cons_succ, i64_w, i32_w]
               rfl
             refine pure_ (i := 12) (N := some 95) (v := ?_) (a' := ?_) #[true, true, true, true, true, true, true, true, true, true, true, true, true] rfl rfl (any_of HT_.out (by kernel_rfl)) (fun _ _ _ h => h) (Or.inl ⟨by rfl, ?_⟩) ?_ ?_
             rotate_left
             · intro w'
               go_simp
               with_reducible rfl
             rotate_left
             · simp only [Act.put, List.setIfInBounds_toArray, List.set_cons_zero, List.set_cons_succ, i64_w, i32_w]
               rfl
             refine done_ (done_of HT_.out (by kernel_rfl)) ?_
             go_wp2
             go_roundg k2
             case measure => omega
             case rel => exact ⟨x + 1, x, ls1, fr1, by first | rfl | rw [hx1], by first | rfl | rw [hx1], ⟨⟨by have := HX0.out; omega, by have := HX.out; omega⟩, by have h_ := scanS_ok l1 L B gn last own l1.length (by have := HF.out; omega) HX0.out.1 HX0.out.2 HX.out.2; rw [es] at h_; exact h_⟩, ⟨by have h_ := HSF.out; rw [scanF, es] at h_; exact h_⟩, HS, HW⟩
           · have dlt : decide (rd ls1 x < rd ls1 b) = false := decide_eq_false hlt
             have es : scanS l1 L B gn last own x (ls1, fr1, b) = (ls1, fr1, b) := by unfold scanS; rw [if_neg HG.out, if_neg (show ¬ seenV l1 L B own x < rd ls1 x from Int.not_lt.2 HCC.out)]; simp only [pickB]; rw [if_neg (Int.not_lt.2 NB.out), if_neg hlt]
             clear hlt
             refine start_ (n := 13) (S := fun w' => w'.cell? ⟨gl, x.toNat, none⟩ = some (.int .i64 (rd ls1 x)) ∧ w'.cell? ⟨gl, b.toNat, none⟩ = some (.int .i64 (rd ls1 b))) (ds := []) #[false, false, false, false, false, false, false, false, false, false, false, false, false] (by kernel_rfl) rfl rfl ⟨kx, kb⟩ (fun hHeld => ?_); refine with_tabW impl_Prices_place.tab13 impl_Prices_place.bits13 (fun HT_ HW_ => ?_)
             generalize w4.drew = w8 at HS HW kx kb hHeld ⊢
             refine pure_ (i := 0) (N := some 83) (v := ?_) (a' := ?_) #[true, false, false, false, false, false, false, false, false, false, false, false, false] rfl rfl (any_of HT_.out (by kernel_rfl)) (fun _ _ _ h => h) (Or.inl ⟨by rfl, ?_⟩) ?_ ?_
             rotate_left
             · intro w'
               go_simp
               with_reducible rfl
             rotate_left
             · simp only [Act.put, List.setIfInBounds_toArray, List.set_cons_zero, List.set_cons_succ, i64_w, i32_w]
               rfl
             refine pure_ (i := 1) (N := some 84) (v := ?_) (a' := ?_) #[true, true, false, false, false, false, false, false, false, false, false, false, false] rfl rfl (any_of HT_.out (by kernel_rfl)) (fun _ _ _ h => h) (Or.inl ⟨by rfl, ?_⟩) ?_ ?_
             rotate_left
             · intro w'
               go_simp
               with_reducible rfl
             rotate_left
             · simp only [Act.put, List.setIfInBounds_toArray, List.set_cons_zero, List.set_cons_succ, i64_w, i32_w]
               rfl
             refine pure_ (i := 2) (N := some 85) (v := ?_) (a' := ?_) #[true, true, true, false, false, false, false, false, false, false, false, false, false] rfl rfl (any_of HT_.out (by kernel_rfl)) (fun _ _ _ h => h) (Or.inl ⟨by rfl, ?_⟩) ?_ ?_
             rotate_left
             · intro w'
               go_simp
               with_reducible rfl
             rotate_left
             · simp only [Act.put, List.setIfInBounds_toArray, List.set_cons_zero, List.set_cons_succ, i64_w, i32_w]
               rfl
             refine pure_ (i := 3) (N := some 86) (v := ?_) (a' := ?_) #[true, true, true, true, false, false, false, false, false, false, false, false, false] rfl rfl (any_of HT_.out (by kernel_rfl)) (fun _ _ _ h => h) (Or.inl ⟨by rfl, ?_⟩) ?_ ?_
             rotate_left
             · intro w'
               go_simp
               with_reducible rfl
             rotate_left
             · simp only [Act.put, List.setIfInBounds_toArray, List.set_cons_zero, List.set_cons_succ, i64_w, i32_w]
               rfl
             refine pure_ (i := 4) (N := some 87) (v := ?_) (a' := ?_) #[true, true, true, true, true, false, false, false, false, false, false, false, false] rfl rfl (any_of HT_.out (by kernel_rfl)) (fun _ _ _ h => h) (Or.inl ⟨by rfl, ?_⟩) ?_ ?_
             rotate_left
             · intro w'
               go_simp
               with_reducible rfl
             rotate_left
             · simp only [Act.put, List.setIfInBounds_toArray, List.set_cons_zero, List.set_cons_succ, i64_w, i32_w]
               rfl
             refine pure_ (i := 5) (N := some 88) (v := ?_) (a' := ?_) #[true, true, true, true, true, true, false, false, false, false, false, false, false] rfl rfl (any_of HT_.out (by kernel_rfl)) (fun _ _ _ h => h) (Or.inl ⟨by rfl, ?_⟩) ?_ ?_
             rotate_left
             · intro w'
               go_simp
               with_reducible rfl
             rotate_left
             · simp only [Act.put, List.setIfInBounds_toArray, List.set_cons_zero, List.set_cons_succ, i64_w, i32_w]
               rfl
             refine pure_ (i := 7) (N := some 90) (v := ?_) (a' := ?_) #[true, true, true, true, true, true, false, true, false, false, false, false, false] rfl rfl (any_of HT_.out (by kernel_rfl)) (fun _ _ _ h => h) (Or.inl ⟨by rfl, ?_⟩) ?_ ?_
             rotate_left
             · intro w'
               go_simp
               with_reducible rfl
             rotate_left
             · simp only [Act.put, List.setIfInBounds_toArray, List.set_cons_zero, List.set_cons_succ, i64_w, i32_w]
               rfl
             refine pure_ (i := 8) (N := some 91) (v := ?_) (a' := ?_) #[true, true, true, true, true, true, false, true, true, false, false, false, false] rfl rfl (any_of HT_.out (by kernel_rfl)) (fun _ _ _ h => h) (Or.inl ⟨by rfl, ?_⟩) ?_ ?_
             rotate_left
             · intro w'
               go_simp
               with_reducible rfl
             rotate_left
             · simp only [Act.put, List.setIfInBounds_toArray, List.set_cons_zero, List.set_cons_succ, i64_w, i32_w]
               rfl
             refine pure_ (i := 9) (N := some 92) (v := ?_) (a' := ?_) #[true, true, true, true, true, true, false, true, true, true, false, false, false] rfl rfl (any_of HT_.out (by kernel_rfl)) (fun _ _ _ h => h) (Or.inl ⟨by rfl, ?_⟩) ?_ ?_
             rotate_left
             · intro w'
               go_simp
               with_reducible rfl
             rotate_left
             · simp only [Act.put, List.setIfInBounds_toArray, List.set_cons_zero, List.set_cons_succ, i64_w, i32_w]
               rfl
             refine take_ (i := 6) (N := some 89) (v := ?_) (a' := ?_) #[true, true, true, true, true, true, true, true, true, true, false, false, false] rfl rfl (take_ofW HT_.out HW_.out (by kernel_rfl)) (fun _ _ _ h => h) (Or.inl ⟨by rfl, ?_⟩) hHeld ?_ ?_
             rotate_left
             · rintro w' ⟨s0, s1⟩
               go_simp
               with_reducible rfl
             rotate_left
             · simp only [Act.put, List.setIfInBounds_toArray, List.set_cons_zero, List.set_cons_succ, i64_w, i32_w]
               rfl
             refine take_ (i := 10) (N := some 93) (v := ?_) (a' := ?_) #[true, true, true, true, true, true, true, true, true, true, true, false, false] rfl rfl (take_ofW HT_.out HW_.out (by kernel_rfl)) (fun _ _ _ h => h) (Or.inl ⟨by rfl, ?_⟩) hHeld ?_ ?_
             rotate_left
             · rintro w' ⟨s0, s1⟩
               go_simp
               with_reducible rfl
             rotate_left
             · simp only [Act.put, List.setIfInBounds_toArray, List.set_cons_zero, List.set_cons_succ, i64_w, i32_w]
               rfl
             refine pure_ (i := 11) (N := some 94) (v := ?_) (a' := ?_) #[true, true, true, true, true, true, true, true, true, true, true, true, false] rfl rfl (any_of HT_.out (by kernel_rfl)) (fun _ _ _ h => h) (Or.inl ⟨by rfl, ?_⟩) ?_ ?_
             rotate_left
             · intro w'
               go_simp
               with_reducible rfl
             rotate_left
             · simp only [Act.put, List.setIfInBounds_toArray, List.set_cons_zero, List.set_cons_succ, i64_w, i32_w]
               rfl
             refine pure_ (i := 12) (N := some 95) (v := ?_) (a' := ?_) #[true, true, true, true, true, true, true, true, true, true, true, true, true] rfl rfl (any_of HT_.out (by kernel_rfl)) (fun _ _ _ h => h) (Or.inl ⟨by rfl, ?_⟩) ?_ ?_
             rotate_left
             · intro w'
               go_simp
               with_reducible rfl
             rotate_left
             · simp only [Act.put, List.setIfInBounds_toArray, List.set_cons_zero, List.set_cons_succ, i64_w, i32_w]
               rfl
             refine done_ (done_of HT_.out (by kernel_rfl)) ?_
             go_wp2
             go_roundg k2
             case measure => omega
             case rel => exact ⟨x + 1, b, ls1, fr1, by first | rfl | rw [hx1], by first | rfl | rw [hx1], ⟨⟨by have := HX0.out; omega, by have := HX.out; omega⟩, by have h_ := scanS_ok l1 L B gn last own l1.length (by have := HF.out; omega) HX0.out.1 HX0.out.2 HX.out.2; rw [es] at h_; exact h_⟩, ⟨by have h_ := HSF.out; rw [scanF, es] at h_; exact h_⟩, HS, HW⟩
    | zero =>
     have dx : decide (x < (l1.length : Int)) = false := decide_eq_false (by have := HX.out; omega)
     have e : S = (ls1, fr1, b) := HSF.out.symm
     subst e
     have HB0 := Aside0.mk (show 0 ≤ b ∧ b < (l1.length : Int) from HSC.out.1)
     have HFR := Aside0.mk (show ∀ x ∈ fr1, x < (l1.length : Int) from HSC.out.2)
     have HQ1 := Aside0.mk (show binF by_ gn l1.length 0 (ls1, B) = Q from HQ.out)
     have HH1 := Aside0.mk (show (if rd l2 b < 0 then some (L2, Q.2, fr1, b) else outF l1 l2 l1.length k1 Q.1 fr1 (gn.set b.toNat true) (wy ++ [rd l2 b]) b L2 Q.2) = some s from HH.out)
     have pb : (0 ≤ b) = True := eq_true HB0.out.1
     have qb : (b < (l1.length : Int)) = True := eq_true HB0.out.2
     have kb : wr.cell? ⟨gl, b.toNat, none⟩ = some (.int .i64 by_) := by have h_ := (HS.out.rl.cell b HB0.out.1 HB0.out.2).1; rw [show rd ls1 b = by_ from HBY.out] at h_; exact h_
     clear HSF HX HSC HQ HH HBY
     go_wp2
     go_loopg [104] wy.length (fun gk v104 w' => ∃ (x : Int) (L1 : List Int), v104 = .int .i64 x ∧ Aside0 (0 ≤ x ∧ x + gk = (wy.length : Int)) ∧ Aside0 (addF by_ L1 (wy.drop x.toNat) = L2) ∧ Aside0 (St w0 w P l1.length ⟨gL, cL, gB, cB, gO, cO, gl, cl, gf, cf, gg, cg, gb⟩ #[.slice (some ⟨gL, 0, none⟩) l1.length cL, .slice (some ⟨gB, 0, none⟩) l1.length cB] 33 L1 B l2 ls1 fr1 gn w') ∧ Aside0 (RW w0 w ⟨gL, cL, gB, cB, gO, cO, gl, cl, gf, cf, gg, cg, gb⟩ w' (some adw) cw wy))
     case atStart => exact ⟨0, L, rfl, ⟨⟨by omega, by omega⟩⟩, ⟨HL2.out⟩, HS, HW⟩
     case round =>
      clear HS HW kb dx
      obtain ⟨x, L1, rfl, HX, HAD, HS, HW⟩ := hrel
      cases gk with
      | succ k2 =>
       have dx : decide (x < (wy.length : Int)) = true := decide_eq_true (by have := HX.out; omega)
       have px : (0 ≤ x) = True := eq_true (by have := HX.out; omega)
       have qx : (x < (wy.length : Int)) = True := eq_true (by have := HX.out; omega)
       have hx1 : wrap64 (x + 1) = x + 1 := by have := HX.out; have := HF.out; have := HL.out; unfold wrap64; omega
       obtain ⟨adw2, ew2, hxw⟩ := Kd.at_int (Kd.R_reads' HW.out).2.2 x (of_eq_true px) (of_eq_true qx)
       obtain rfl : adw = adw2 := (by injection ew2)
       obtain ⟨i, hi⟩ : ∃ i_, rd wy x = i_ := ⟨_, rfl⟩
       have HI := Aside0.mk (show 0 ≤ i ∧ i < (l1.length : Int) from hi ▸ rd_in HF.out.2.2.1 (of_eq_true px) (of_eq_true qx))
       have HAD2 := Aside0.mk (show addF by_ L1 (i :: wy.drop (x + 1).toNat) = L2 by have h_ := HAD.out; rw [drop_rd wy (of_eq_true px) (of_eq_true qx), hi] at h_; exact h_)
       rw [hi] at hxw
       clear HAD hi
       have pi : (0 ≤ i) = True := eq_true HI.out.1
       have qi : (i < (l1.length : Int)) = True := eq_true HI.out.2
       have hk0 : wr.cell? ⟨gb, 0, none⟩ = some (.slice (some ⟨gL, 0, none⟩) l1.length cL) := (blk_cell HS.out.bk 0).trans rfl
       have kL : wr.cell? ⟨gL, i.toNat, none⟩ = some (.int .i64 (rd L1 i)) := (HS.out.rL.cell i HI.out.1 HI.out.2).1
       have fL : wr.frozen? ⟨gL, i.toNat, none⟩ = false := (HS.out.rL.cell i HI.out.1 HI.out.2).2
       go_wp2_with (first | ((with_reducible refine gate_store (t := 3) (p := 115) rfl ?_); refine store_event (t := 3) (p := 115) (v := ?vo_3) (w1 := (wr.setCell ⟨gL, i.toNat, none⟩ (.int .i64 (wrap64 ((rd L1 i) + by_))))) ?hg ?ho ?hn ?hr ?_; (case ho => rfl); (case hg => rfl); (case hn => rfl); (case hr => first | (go_simp; done) | (go_simp; rfl)); intro w5 hw_; have HS2 := Aside0.mk (show St w0 w P l1.length ⟨gL, cL, gB, cB, gO, cO, gl, cl, gf, cf, gg, cg, gb⟩ #[.slice (some ⟨gL, 0, none⟩) l1.length cL, .slice (some ⟨gB, 0, none⟩) l1.length cB] 33 (L1.set i.toNat (wrap64 ((rd L1 i) + by_))) B l2 ls1 fr1 gn w5 by rw [hw_]; exact HS.out.sL HA.out i (wrap64 ((rd L1 i) + by_))); clear HS; have HS := HS2; clear HS2; have HW2 := Aside0.mk (show RW w0 w ⟨gL, cL, gB, cB, gO, cO, gl, cl, gf, cf, gg, cg, gb⟩ w5 (some adw) cw wy by rw [hw_]; exact RW.far HW.out (p := ⟨gL, i.toNat, none⟩) (show gL ∈ Gs.all ⟨gL, cL, gB, cB, gO, cO, gl, cl, gf, cf, gg, cg, gb⟩ by simp [Gs.all]) _); clear HW; have HW := HW2; clear HW2; clear kL fL hk0 hxw; clear hw_))
       go_roundg k2
       case measure => omega
       case rel => exact ⟨x + 1, (L1.set i.toNat (wrap64 ((rd L1 i) + by_))), by first | rfl | rw [hx1], ⟨by have := HX.out; omega⟩, ⟨HAD2.out⟩, HS, HW⟩
      | zero =>
       have dx : decide (x < (wy.length : Int)) = false := decide_eq_false (by have := HX.out; omega)
       have e : L1 = L2 := by have h_ := HAD.out; rw [List.drop_eq_nil_of_le (by have := HX.out; omega)] at h_; exact h_
       subst e
       clear HX HAD HL2
       go_wp2
       go_loopg [118] l1.length (fun gk v118 w' => ∃ (x : Int) (ls2 B2 : List Int), v118 = .int .i64 x ∧ Aside0 (0 ≤ x ∧ x + gk = (l1.length : Int)) ∧ Aside0 (binF by_ gn gk x (ls2, B2) = Q) ∧ Aside0 (St w0 w P l1.length ⟨gL, cL, gB, cB, gO, cO, gl, cl, gf, cf, gg, cg, gb⟩ #[.slice (some ⟨gL, 0, none⟩) l1.length cL, .slice (some ⟨gB, 0, none⟩) l1.length cB] 33 L1 B2 l2 ls2 fr1 gn w') ∧ Aside0 (RW w0 w ⟨gL, cL, gB, cB, gO, cO, gl, cl, gf, cf, gg, cg, gb⟩ w' (some adw) cw wy))
       case atStart => exact ⟨0, ls1, B, rfl, ⟨⟨by omega, by omega⟩⟩, HQ1, HS, HW⟩
       case round =>
        clear HS HW dx HQ1
        obtain ⟨x, ls2, B2, rfl, HX, HQ1, HS, HW⟩ := hrel
        cases gk with
        | succ k3 =>
         have dx : decide (x < (l1.length : Int)) = true := decide_eq_true (by have := HX.out; omega)
         have HX0 := Aside0.mk (show 0 ≤ x ∧ x < (l1.length : Int) by have := HX.out; omega)
         have px : (0 ≤ x) = True := eq_true HX0.out.1
         have qx : (x < (l1.length : Int)) = True := eq_true HX0.out.2
         have hx1 : wrap64 (x + 1) = x + 1 := by have := HX.out; have := HL.out; unfold wrap64; omega
         by_cases hg : rdOf false gn x = true
         · have hcg : wr.cell? ⟨gg, x.toNat, none⟩ = some (.bool true) := by rw [← hg]; exact (HS.out.rg.cell x HX0.out.1 HX0.out.2).1
           have es : binS by_ gn x (ls2, B2) = (ls2, (B2.set x.toNat (wrap64 ((rd B2 x) - by_)))) := by unfold binS; rw [if_pos hg]
           clear hg
           have hk1 : wr.cell? ⟨gb, 1, none⟩ = some (.slice (some ⟨gB, 0, none⟩) l1.length cB) := (blk_cell HS.out.bk 1).trans rfl
           have kB : wr.cell? ⟨gB, x.toNat, none⟩ = some (.int .i64 (rd B2 x)) := (HS.out.rB.cell x HX0.out.1 HX0.out.2).1
           have fB : wr.frozen? ⟨gB, x.toNat, none⟩ = false := (HS.out.rB.cell x HX0.out.1 HX0.out.2).2
           go_wp2_with (first | ((with_reducible refine gate_store (t := 3) (p := 132) rfl ?_); refine store_event (t := 3) (p := 132) (v := ?vo_4) (w1 := (wr.setCell ⟨gB, x.toNat, none⟩ (.int .i64 (wrap64 ((rd B2 x) - by_))))) ?hg ?ho ?hn ?hr ?_; (case ho => rfl); (case hg => rfl); (case hn => rfl); (case hr => first | (go_simp; done) | (go_simp; rfl)); intro w5 hw_; have HS2 := Aside0.mk (show St w0 w P l1.length ⟨gL, cL, gB, cB, gO, cO, gl, cl, gf, cf, gg, cg, gb⟩ #[.slice (some ⟨gL, 0, none⟩) l1.length cL, .slice (some ⟨gB, 0, none⟩) l1.length cB] 33 L1 (B2.set x.toNat (wrap64 ((rd B2 x) - by_))) l2 ls2 fr1 gn w5 by rw [hw_]; exact HS.out.sB HA.out x (wrap64 ((rd B2 x) - by_))); clear HS; have HS := HS2; clear HS2; have HW2 := Aside0.mk (show RW w0 w ⟨gL, cL, gB, cB, gO, cO, gl, cl, gf, cf, gg, cg, gb⟩ w5 (some adw) cw wy by rw [hw_]; exact RW.far HW.out (p := ⟨gB, x.toNat, none⟩) (show gB ∈ Gs.all ⟨gL, cL, gB, cB, gO, cO, gl, cl, gf, cf, gg, cg, gb⟩ by simp [Gs.all]) _); clear HW; have HW := HW2; clear HW2; clear kB fB hk1 hcg; clear hw_))
           go_roundg k3
           case measure => omega
           case rel => exact ⟨x + 1, ls2, (B2.set x.toNat (wrap64 ((rd B2 x) - by_))), by first | rfl | rw [hx1], ⟨by have := HX.out; omega⟩, ⟨by have h_ := HQ1.out; rw [binF, es] at h_; exact h_⟩, HS, HW⟩
         · have hcg : wr.cell? ⟨gg, x.toNat, none⟩ = some (.bool false) := by rw [show false = rdOf false gn x by revert hg; cases rdOf false gn x <;> simp]; exact (HS.out.rg.cell x HX0.out.1 HX0.out.2).1
           have es : binS by_ gn x (ls2, B2) = ((ls2.set x.toNat (wrap64 ((rd ls2 x) - by_))), B2) := by unfold binS; rw [if_neg hg]
           clear hg
           have kl : wr.cell? ⟨gl, x.toNat, none⟩ = some (.int .i64 (rd ls2 x)) := (HS.out.rl.cell x HX0.out.1 HX0.out.2).1
           have fl : wr.frozen? ⟨gl, x.toNat, none⟩ = false := (HS.out.rl.cell x HX0.out.1 HX0.out.2).2
           go_wp2_with (first | ((with_reducible refine gate_store (t := 3) (p := 139) rfl ?_); refine store_event (t := 3) (p := 139) (v := ?vo_5) (w1 := (wr.setCell ⟨gl, x.toNat, none⟩ (.int .i64 (wrap64 ((rd ls2 x) - by_))))) ?hg ?ho ?hn ?hr ?_; (case ho => rfl); (case hg => rfl); (case hn => rfl); (case hr => first | (go_simp; done) | (go_simp; rfl)); intro w5 hw_; have HS2 := Aside0.mk (show St w0 w P l1.length ⟨gL, cL, gB, cB, gO, cO, gl, cl, gf, cf, gg, cg, gb⟩ #[.slice (some ⟨gL, 0, none⟩) l1.length cL, .slice (some ⟨gB, 0, none⟩) l1.length cB] 33 L1 B2 l2 (ls2.set x.toNat (wrap64 ((rd ls2 x) - by_))) fr1 gn w5 by rw [hw_]; exact HS.out.sl HA.out x (wrap64 ((rd ls2 x) - by_))); clear HS; have HS := HS2; clear HS2; have HW2 := Aside0.mk (show RW w0 w ⟨gL, cL, gB, cB, gO, cO, gl, cl, gf, cf, gg, cg, gb⟩ w5 (some adw) cw wy by rw [hw_]; exact RW.far HW.out (p := ⟨gl, x.toNat, none⟩) (show gl ∈ Gs.all ⟨gL, cL, gB, cB, gO, cO, gl, cl, gf, cf, gg, cg, gb⟩ by simp [Gs.all]) _); clear HW; have HW := HW2; clear HW2; clear kl fl hcg; clear hw_))
           go_roundg k3
           case measure => omega
           case rel => exact ⟨x + 1, (ls2.set x.toNat (wrap64 ((rd ls2 x) - by_))), B2, by first | rfl | rw [hx1], ⟨by have := HX.out; omega⟩, ⟨by have h_ := HQ1.out; rw [binF, es] at h_; exact h_⟩, HS, HW⟩
        | zero =>
         have dx : decide (x < (l1.length : Int)) = false := decide_eq_false (by have := HX.out; omega)
         have e : Q = (ls2, B2) := HQ1.out.symm
         subst e
         clear HX HQ1
         have kg : wr.frozen? ⟨gg, b.toNat, none⟩ = false := (HS.out.rg.cell b HB0.out.1 HB0.out.2).2
         have kg0 : wr.cell? ⟨gg, b.toNat, none⟩ = some (.bool (rdOf false gn b)) := (HS.out.rg.cell b HB0.out.1 HB0.out.2).1
         by_cases hob : rd l2 b < 0
         · have dob : decide (rd l2 b < 0) = true := decide_eq_true hob
           have h_ := HH1.out
           rw [if_pos hob] at h_
           have e : s = (L1, B2, fr1, b) := (Option.some.inj h_).symm
           subst e
           clear h_ HH1 hob
           have HBK := Aside0.mk (show backF fr1 a3 (l1.length + 1) b l2 = some O1 from HBACK.out)
           go_wp2_with (first | ((with_reducible refine gate_store (t := 4) (p := 144) rfl ?_); refine store_event (t := 4) (p := 144) (v := ?vo_6) (w1 := (wr.setCell ⟨gg, b.toNat, none⟩ (.bool true))) ?hg ?ho ?hn ?hr ?_; (case ho => rfl); (case hg => rfl); (case hn => rfl); (case hr => first | (go_simp; done) | (go_simp; rfl)); intro w5 hw_; have HS2 := Aside0.mk (show St w0 w P l1.length ⟨gL, cL, gB, cB, gO, cO, gl, cl, gf, cf, gg, cg, gb⟩ #[.slice (some ⟨gL, 0, none⟩) l1.length cL, .slice (some ⟨gB, 0, none⟩) l1.length cB] 33 L1 B2 l2 ls2 fr1 (gn.set b.toNat true) w5 by rw [hw_]; exact HS.out.sg HA.out b true); clear HS; have HS := HS2; clear HS2; have HW2 := Aside0.mk (show RW w0 w ⟨gL, cL, gB, cB, gO, cO, gl, cl, gf, cf, gg, cg, gb⟩ w5 (some adw) cw wy by rw [hw_]; exact RW.far HW.out (p := ⟨gg, b.toNat, none⟩) (show gg ∈ Gs.all ⟨gL, cL, gB, cB, gO, cO, gl, cl, gf, cf, gg, cg, gb⟩ by simp [Gs.all]) _); clear HW; have HW := HW2; clear HW2; clear kg kg0; clear hw_; have kO : w5.cell? ⟨gO, b.toNat, none⟩ = some (.int .i64 (rd l2 b)) := (HS.out.rO.cell b HB0.out.1 HB0.out.2).1))
           go_loopg [22] (l1.length + 1) (fun gk v22 w' => ∃ (x : Int) (O2 : List Int), v22 = .int .i64 x ∧ Aside0 (x < (l1.length : Int)) ∧ Aside0 (backF fr1 a3 gk x O2 = some O1) ∧ Aside0 (St w0 w P l1.length ⟨gL, cL, gB, cB, gO, cO, gl, cl, gf, cf, gg, cg, gb⟩ #[.slice (some ⟨gL, 0, none⟩) l1.length cL, .slice (some ⟨gB, 0, none⟩) l1.length cB] 33 L1 B2 O2 ls2 fr1 (gn.set b.toNat true) w'))
           case atStart => exact ⟨b, l2, rfl, ⟨HB0.out.2⟩, HBK, HS⟩
           case round =>
            clear HS HW dx dob kO HBK
            obtain ⟨x, O2, rfl, HX, HBK, HS⟩ := hrel
            cases gk with
            | zero => exact absurd HBK.out (by simp [backF])
            | succ k4 =>
             have h_ := HBK.out
             rw [backF] at h_
             by_cases hx : x < 0
             · rw [if_pos hx] at h_
               have e : O2 = O1 := Option.some.inj h_
               subst e
               have dx : decide (0 ≤ x) = false := decide_eq_false (by omega)
               clear hx h_
               go_wp2
               first | go_end0 | ((try simp only [Exit.inBlock, Exit.then]); refine bodyPost_ret (results_none rfl _ _ _) rfl ?_)
               have hin : ∀ {k g : Nat}, k = g → (P g ∨ w.heap.size ≤ g) → ((P0_0_ k ∨ P0_1_ k ∨ P2_ k) ∨ w.heap.size ≤ k) := fun e h => by subst e; rw [HPE.out] at h; exact h
               exact ⟨rfl, Kd.R_mono HS.out.rL (fun _ hk => hin hk HA.out.eL.2), Kd.R_mono HS.out.rB (fun _ hk => hin hk HA.out.eB.2), Kd.R_mono HS.out.rO (fun _ hk => hin hk HA.out.eO.2), HS.out.bl, HPE.out ▸ HS.out.kp⟩
             · rw [if_neg hx] at h_
               have dx : decide (0 ≤ x) = true := decide_eq_true (by omega)
               have HX0 := Aside0.mk (show 0 ≤ x ∧ x < (l1.length : Int) from ⟨by omega, HX.out⟩)
               have px : (0 ≤ x) = True := eq_true HX0.out.1
               have qx : (x < (l1.length : Int)) = True := eq_true HX0.out.2
               obtain ⟨f, hf⟩ : ∃ f_, rd fr1 x = f_ := ⟨_, rfl⟩
               have HFN := Aside0.mk (show f < (l1.length : Int) from hf ▸ rd_in HFR.out HX0.out.1 (by rw [HS.out.lens.2.2.2.2.1]; exact HX0.out.2))
               have kf : wr.cell? ⟨gf, x.toNat, none⟩ = some (.int .i64 f) := by rw [← hf]; exact (HS.out.rf.cell x HX0.out.1 HX0.out.2).1
               rw [hf] at h_
               have fO : wr.frozen? ⟨gO, x.toNat, none⟩ = false := (HS.out.rO.cell x HX0.out.1 HX0.out.2).2
               have kO : wr.cell? ⟨gO, x.toNat, none⟩ = some (.int .i64 (rd O2 x)) := (HS.out.rO.cell x HX0.out.1 HX0.out.2).1
               have HFE := Aside0.mk hf
               clear hf hx
               by_cases hf0 : 0 ≤ f
               · rw [if_pos hf0] at h_
                 have df : decide (0 ≤ f) = true := decide_eq_true hf0
                 have pf : (0 ≤ f) = True := eq_true hf0
                 have qf : (f < (l1.length : Int)) = True := eq_true HFN.out
                 have kOf : wr.cell? ⟨gO, f.toNat, none⟩ = some (.int .i64 (rd O2 f)) := (HS.out.rO.cell f hf0 HFN.out).1
                 have HN := Aside0.mk h_
                 clear h_ hf0
                 go_wp2_with (first | ((with_reducible refine gate_store (t := 3) (p := 176) rfl ?_); refine store_event (t := 3) (p := 176) (v := ?vo_7) (w1 := (wr.setCell ⟨gO, x.toNat, none⟩ (.int .i64 (rd O2 f)))) ?hg ?ho ?hn ?hr ?_; (case ho => rfl); (case hg => rfl); (case hn => rfl); (case hr => first | (go_simp; done) | (go_simp; rfl)); intro w6 hw_; have HS2 := Aside0.mk (show St w0 w P l1.length ⟨gL, cL, gB, cB, gO, cO, gl, cl, gf, cf, gg, cg, gb⟩ #[.slice (some ⟨gL, 0, none⟩) l1.length cL, .slice (some ⟨gB, 0, none⟩) l1.length cB] 33 L1 B2 (O2.set x.toNat (rd O2 f)) ls2 fr1 (gn.set b.toNat true) w6 by rw [hw_]; exact HS.out.sO HA.out x (rd O2 f)); clear HS; have HS := HS2; clear HS2; clear kO fO kOf kf; have kf6 : w6.cell? ⟨gf, x.toNat, none⟩ = some (.int .i64 f) := (by rw [← HFE.out]; exact (HS.out.rf.cell x HX0.out.1 HX0.out.2).1); clear hw_))
                 go_roundg k4
                 case measure => omega
                 case rel => exact ⟨f, (O2.set x.toNat (rd O2 f)), rfl, HFN, HN, HS⟩
               · rw [if_neg hf0] at h_
                 have df : decide (0 ≤ f) = false := decide_eq_false hf0
                 have HN := Aside0.mk h_
                 clear h_ hf0
                 go_wp2_with (first | ((with_reducible refine gate_store (t := 3) (p := 180) rfl ?_); refine store_event (t := 3) (p := 180) (v := ?vo_8) (w1 := (wr.setCell ⟨gO, x.toNat, none⟩ (.int .i64 a3))) ?hg ?ho ?hn ?hr ?_; (case ho => rfl); (case hg => rfl); (case hn => rfl); (case hr => first | (go_simp; done) | (go_simp; rfl)); intro w6 hw_; have HS2 := Aside0.mk (show St w0 w P l1.length ⟨gL, cL, gB, cB, gO, cO, gl, cl, gf, cf, gg, cg, gb⟩ #[.slice (some ⟨gL, 0, none⟩) l1.length cL, .slice (some ⟨gB, 0, none⟩) l1.length cB] 33 L1 B2 (O2.set x.toNat a3) ls2 fr1 (gn.set b.toNat true) w6 by rw [hw_]; exact HS.out.sO HA.out x a3); clear HS; have HS := HS2; clear HS2; clear kO fO kf; have kf6 : w6.cell? ⟨gf, x.toNat, none⟩ = some (.int .i64 f) := (by rw [← HFE.out]; exact (HS.out.rf.cell x HX0.out.1 HX0.out.2).1); clear hw_))
                 go_roundg k4
                 case measure => omega
                 case rel => exact ⟨f, (O2.set x.toNat a3), rfl, HFN, HN, HS⟩
         · have dob : decide (rd l2 b < 0) = false := decide_eq_false hob
           have h_ := HH1.out
           rw [if_neg hob] at h_
           have HN := Aside0.mk h_
           have HO2 := Aside0.mk (show 0 ≤ rd l2 b ∧ rd l2 b < (l1.length : Int) from ⟨by omega, rd_in HOWN.out HB0.out.1 (by have := HLN.out; have := HB0.out; omega)⟩)
           clear h_ HH1 hob
           go_wp2_with (first | ((with_reducible refine gate_store (t := 4) (p := 144) rfl ?_); refine store_event (t := 4) (p := 144) (v := ?vo_6) (w1 := (wr.setCell ⟨gg, b.toNat, none⟩ (.bool true))) ?hg ?ho ?hn ?hr ?_; (case ho => rfl); (case hg => rfl); (case hn => rfl); (case hr => first | (go_simp; done) | (go_simp; rfl)); intro w5 hw_; have HS2 := Aside0.mk (show St w0 w P l1.length ⟨gL, cL, gB, cB, gO, cO, gl, cl, gf, cf, gg, cg, gb⟩ #[.slice (some ⟨gL, 0, none⟩) l1.length cL, .slice (some ⟨gB, 0, none⟩) l1.length cB] 33 L1 B2 l2 ls2 fr1 (gn.set b.toNat true) w5 by rw [hw_]; exact HS.out.sg HA.out b true); clear HS; have HS := HS2; clear HS2; have HW2 := Aside0.mk (show RW w0 w ⟨gL, cL, gB, cB, gO, cO, gl, cl, gf, cf, gg, cg, gb⟩ w5 (some adw) cw wy by rw [hw_]; exact RW.far HW.out (p := ⟨gg, b.toNat, none⟩) (show gg ∈ Gs.all ⟨gL, cL, gB, cB, gO, cO, gl, cl, gf, cf, gg, cg, gb⟩ by simp [Gs.all]) _); clear HW; have HW := HW2; clear HW2; clear kg kg0; clear hw_; have kO : w5.cell? ⟨gO, b.toNat, none⟩ = some (.int .i64 (rd l2 b)) := (HS.out.rO.cell b HB0.out.1 HB0.out.2).1) | ((with_reducible refine gate_builtin (b := .append) (xs := #[.tmp 150, .tmp 155]) rfl ?_); at_builtin; refine Kd.R_append (Kd.int .i64) (w0 := w0) w0.heap.size rfl (.tmp 150) (.tmp 155) 27 3 (.int .i64 0) 8 rfl Try.underlying27 info3 rfl (by decide) (by omega) (.slice (some adw) wy.length cw) wy (rd l2 b) [.int .i64 (rd l2 b)] (Pw w ⟨gL, cL, gB, cB, gO, cO, gl, cl, gf, cf, gg, cg, gb⟩) (fun _ => False) rfl rfl ?aP (fun _ hk => hk.elim) ?aF ?aO ?aB ?aS ?aL ?_; (case aP => exact rfl); (case aB => exact HS.out.bl); (case aF => exact HS.out.fresh); (case aO => exact HW.out); (case aS => exact HS.out.bl.size); (case aL => have := HF.out; have := HL.out; omega); intro v6 w6 ho hb hg hat; have HS6 := Aside0.mk (show St w0 w P l1.length ⟨gL, cL, gB, cB, gO, cO, gl, cl, gf, cf, gg, cg, gb⟩ #[.slice (some ⟨gL, 0, none⟩) l1.length cL, .slice (some ⟨gB, 0, none⟩) l1.length cB] 33 L1 B2 l2 ls2 fr1 (gn.set b.toNat true) w6 from HS.out.grown hg (fun k hk => HW.out.1 k hk) hb); have HW6 := Aside0.mk ho; clear HS HW ho hb hg hat kO))
           obtain ⟨A6, c6, e6⟩ := Kd.R_slice HW6.out
           subst e6
           go_roundg k1
           case measure => omega
           case rel => exact ⟨ls2, fr1, (gn.set b.toNat true), wy ++ [rd l2 b], b, L1, B2, A6, c6, by first | rfl | simp, rfl, ⟨⟨by have := HF.out; simp; omega, by simp⟩, HB0.out.2, fun i hi => (List.mem_append.1 hi).elim (fun h => HF.out.2.2.1 i h) (fun h => by rw [List.mem_singleton] at h; rw [h]; exact HO2.out), HFR.out⟩, HN, HS6, HW6⟩
end Go.Proofs.Ytdlblaihleojmaa.GLCheapestFit
